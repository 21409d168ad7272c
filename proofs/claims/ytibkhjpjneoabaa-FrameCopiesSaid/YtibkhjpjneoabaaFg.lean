/- Small contracts. opened: the result of sealed bytes. -/
import Derived.Test.YtibkhjpjneoabaaFf
namespace Go.Proofs.Ytibkhjpjneoabaa
open Go.RowKit
set_option linter.unusedVariables false
set_option linter.unusedSimpArgs false

theorem bytes_ne {l1 l2 : List UInt8} (h : l1 ≠ l2) : (⟨l1.toArray⟩ : ByteArray) ≠ ⟨l2.toArray⟩ := fun e => h (by injection e with e; simpa using congrArg Array.toList e)
theorem bytes_beq (l1 l2 : List UInt8) : ((⟨l1.toArray⟩ : ByteArray).toList == (⟨l2.toArray⟩ : ByteArray).toList) = decide (l1 = l2) := by
  rw [ByteArray.toList_eq, ByteArray.toList_eq]
  show (l1 == l2) = _
  by_cases e : l1 = l2 <;> simp [e]
set_option maxRecDepth 100000 in
theorem equal_any (A1 A2 : Option Addr) (n1 n2 c1 c2 : Nat) (l1 l2 : List UInt8) (w : World) (h1 : RB w A1 n1 c1 l1) (h2 : RB w A2 n2 c2 l2) :
    Calls Try.prog 71 #[.slice A1 n1 c1, .slice A2 n2 c2] w fun e w' => e = .returned (.bool (decide (l1 = l2))) ∧ w = w' := by
  have hc1 := conv_RB h1
  have hc2 := conv_RB h2
  have hd := bytes_beq l1 l2
  have HD := Lib.hid hd
  clear h1 h2 hd
  generalize decide (l1 = l2) = b at *
  generalize (⟨l1.toArray⟩ : ByteArray) = s1 at *
  generalize (⟨l2.toArray⟩ : ByteArray) = s2 at *
  go_enter Try.func71, Try.ntmps71
  go_wp2_with fail
  go_ret
  exact ⟨by rw [← HD.out]; first | rfl | simp, rfl⟩
set_option maxRecDepth 100000 in
theorem new_yes (k m c : Int) (hF : OkF k m c) (w : World) :
    Calls Try.prog 16 #[FV k m c] w fun e w' => ∃ r, e = .returned (.tuple #[.pointer (some ⟨r, 0, none⟩), .int .i64 0]) ∧ w.heap.size ≤ r ∧ RdS w' (w.heap.size) r k m c (.slice none 0 0) St.new ∧ Below w.heap.size w w' := by
  obtain ⟨W0, hW0⟩ : ∃ W0, w.alloc (.cells #[.int .i64 k, .int .i64 m, .int .i64 c] 24) = W0 := ⟨_, rfl⟩
  have hb0 : Below w.heap.size w W0 := hW0 ▸ (Below.refl _ w).alloc (Nat.le_refl _) _
  have kf : Blk W0 w.heap.size 24 #[.int .i64 k, .int .i64 m, .int .i64 c] := hW0 ▸ Blk.new w 24 _
  have C13 := Lib.hid (valid_yes k m c W0 hF)
  unfold FV at C13 ⊢
  have HW0 := Lib.hid hW0
  have HB0 := Lib.hid hb0
  have KF := Lib.hid kf
  obtain ⟨f0, f1, f2⟩ : W0.cell? ⟨w.heap.size, 0, none⟩ = some (.int .i64 k) ∧ W0.cell? ⟨w.heap.size, 1, none⟩ = some (.int .i64 m) ∧ W0.cell? ⟨w.heap.size, 2, none⟩ = some (.int .i64 c) := ⟨kf.cell 0, kf.cell 1, kf.cell 2⟩
  clear hF hW0 hb0 kf
  go_enter Try.func16, Try.ntmps16
  go_upto_region 1 with fail
  rw [HW0.out]
  go_wp2_with (go_at_call 13; (with_reducible refine C13.out.mono ?_); rintro e w1 ⟨rfl, b1⟩; have HB1 := Lib.hid b1; have k1 := KF.out.below b1 KF.out.lt; obtain ⟨g0, g1, g2⟩ : w1.cell? ⟨w.heap.size, 0, none⟩ = some (.int .i64 k) ∧ w1.cell? ⟨w.heap.size, 1, none⟩ = some (.int .i64 m) ∧ w1.cell? ⟨w.heap.size, 2, none⟩ = some (.int .i64 c) := ⟨k1.cell 0, k1.cell 1, k1.cell 2⟩; clear b1 k1)
  go_ret2
  have hb := HB0.out.trans (HB1.out.mono HB0.out.size)
  exact ⟨w1.heap.size, rfl, hb.size, ⟨Blk.new w1 58 _, World.ownsRow_nil _ _ 5 1, by simp; exact Nat.le_succ_of_le hb.size, fun _ => rfl⟩, hb.alloc hb.size _⟩
set_option maxRecDepth 100000 in
theorem new_no (k m c : Int) (hF : BadF k m c) (w : World) :
    Calls Try.prog 16 #[FV k m c] w fun e w' => e = .returned (.tuple #[.pointer none, .int .i64 2]) ∧ Below w.heap.size w w' := by
  obtain ⟨W0, hW0⟩ : ∃ W0, w.alloc (.cells #[.int .i64 k, .int .i64 m, .int .i64 c] 24) = W0 := ⟨_, rfl⟩
  have hb0 : Below w.heap.size w W0 := hW0 ▸ (Below.refl _ w).alloc (Nat.le_refl _) _
  have kf : Blk W0 w.heap.size 24 #[.int .i64 k, .int .i64 m, .int .i64 c] := hW0 ▸ Blk.new w 24 _
  have C13 := Lib.hid (valid_no k m c W0 hF)
  unfold FV at C13 ⊢
  have HW0 := Lib.hid hW0
  have HB0 := Lib.hid hb0
  obtain ⟨f0, f1, f2⟩ : W0.cell? ⟨w.heap.size, 0, none⟩ = some (.int .i64 k) ∧ W0.cell? ⟨w.heap.size, 1, none⟩ = some (.int .i64 m) ∧ W0.cell? ⟨w.heap.size, 2, none⟩ = some (.int .i64 c) := ⟨kf.cell 0, kf.cell 1, kf.cell 2⟩
  clear hF hW0 hb0 kf
  go_enter Try.func16, Try.ntmps16
  go_upto_region 1 with fail
  rw [HW0.out]
  go_wp2_with (go_at_call 13; (with_reducible refine C13.out.mono ?_); rintro e w1 ⟨rfl, b1⟩; have HB1 := Lib.hid b1; clear b1)
  go_ret2
  exact ⟨rfl, HB0.out.trans (HB1.out.mono HB0.out.size)⟩
/-- There is no reader at p. -/
def NoRd (p : Option Addr) (w : World) : Prop := ∀ W, Below w.heap.size w W → Calls Try.prog 32 #[.pointer p] W fun e w' => e = .returned (.bool true) ∧ W = w'
theorem NoRd.nil (w : World) : NoRd none w := fun W _ => none_nil W
theorem NoRd.below {p : Option Addr} {w w' : World} (h : NoRd p w) (hb : Below w.heap.size w w') : NoRd p w' := fun W h2 => h W (hb.trans (h2.mono hb.size))
set_option maxRecDepth 100000 in
theorem offset_none (p : Option Addr) (w : World) (h : NoRd p w) : Calls Try.prog 22 #[.pointer p] w fun e w' => e = .returned (.int .i64 0) ∧ w = w' := by
  have C := Lib.hid (h w (Below.refl _ w))
  clear h
  go_enter Try.func22, Try.ntmps22
  go_wp2_with (go_at_call 32; (with_reducible refine C.out.mono ?_); rintro e w1 ⟨rfl, rfl⟩)
  go_ret
  exact ⟨rfl, rfl⟩
set_option maxRecDepth 100000 in
theorem broken_none (p : Option Addr) (w : World) (h : NoRd p w) : Calls Try.prog 19 #[.pointer p] w fun e w' => e = .returned (.bool false) ∧ w = w' := by
  have C := Lib.hid (h w (Below.refl _ w))
  clear h
  go_enter Try.func19, Try.ntmps19
  go_wp2_with (go_at_call 32; (with_reducible refine C.out.mono ?_); rintro e w1 ⟨rfl, rfl⟩)
  go_ret
  exact ⟨rfl, rfl⟩
set_option maxRecDepth 100000 in
theorem copy_none (p : Option Addr) (w : World) (h : NoRd p w) : Calls Try.prog 24 #[.pointer p] w fun e w' => e = .returned (.pointer none) ∧ w = w' := by
  have C := Lib.hid (h w (Below.refl _ w))
  clear h
  go_enter Try.func24, Try.ntmps24
  go_wp2_with (go_at_call 32; (with_reducible refine C.out.mono ?_); rintro e w1 ⟨rfl, rfl⟩)
  go_ret
  exact ⟨rfl, rfl⟩
set_option maxRecDepth 100000 in
theorem close_none (p : Option Addr) (w : World) (h : NoRd p w) : Calls Try.prog 23 #[.pointer p] w fun e w' => e = .returned (.tuple #[.slice none 0 0, .int .i64 1]) ∧ w = w' := by
  have C := Lib.hid (h w (Below.refl _ w))
  clear h
  go_enter Try.func23, Try.ntmps23
  go_wp2_with (go_at_call 32; (with_reducible refine C.out.mono ?_); rintro e w1 ⟨rfl, rfl⟩)
  go_ret2
  exact ⟨rfl, rfl⟩
set_option maxRecDepth 100000 in
theorem feed_none (p : Option Addr) (A : Option Addr) (n c : Nat) (w : World) (h : NoRd p w) : Calls Try.prog 17 #[.pointer p, .slice A n c] w fun e w' => e = .returned (.tuple #[.slice none 0 0, .int .i64 1]) ∧ Below w.heap.size w w' := by
  have C := Lib.hid (fun W hb => h W hb)
  clear h
  go_enter Try.func17, Try.ntmps17
  go_wp2_with (go_at_call 32; (with_reducible refine (C.out _ ((Below.refl _ w).alloc (Nat.le_refl _) _)).mono ?_); rintro e w1 ⟨rfl, rfl⟩)
  go_ret2
  exact ⟨rfl, (Below.refl _ w).alloc (Nat.le_refl _) _⟩
section
variable {B r : Nat} {k m c : Int} {v : Value} {s : St} {w : World}
theorem RdS.some_ (hF : OkF k m c) (h : RdS w B r k m c v s) : Calls Try.prog 32 #[.pointer (some ⟨r, 0, none⟩)] w fun e w' => e = .returned (.bool false) ∧ w = w' := none_some r m w hF.m1 (h.blk.cell 1)
end
set_option maxRecDepth 100000 in
theorem offset_any (B r : Nat) (k m c : Int) (v : Value) (s : St) (w : World) (hF : OkF k m c) (h : RdS w B r k m c v s) : Calls Try.prog 22 #[.pointer (some ⟨r, 0, none⟩)] w fun e w' => e = .returned (.int .i64 s.off) ∧ w = w' := by
  have C := Lib.hid (h.some_ hF)
  have k4 : w.cell? ⟨r, 4, none⟩ = some (.int .i64 s.off) := h.blk.cell 4
  clear h hF
  go_enter Try.func22, Try.ntmps22
  go_wp2_with (go_at_call 32; (with_reducible refine C.out.mono ?_); rintro e w1 ⟨rfl, rfl⟩)
  go_ret
  exact ⟨rfl, rfl⟩
set_option maxRecDepth 100000 in
theorem broken_any (B r : Nat) (k m c : Int) (v : Value) (s : St) (w : World) (hF : OkF k m c) (h : RdS w B r k m c v s) : Calls Try.prog 19 #[.pointer (some ⟨r, 0, none⟩)] w fun e w' => e = .returned (.bool (decide (s.st = 2) || s.lost)) ∧ w = w' := by
  have C := Lib.hid (h.some_ hF)
  have k3 : w.cell? ⟨r, 3, none⟩ = some (.int .i64 s.st) := h.blk.cell 3
  have k9 : w.cell? ⟨r, 9, none⟩ = some (.bool s.lost) := h.blk.cell 9
  clear h hF
  by_cases h2 : s.st = 2
  · have q : (s.st == 2) = true := by simpa using h2
    have H2 := Lib.hid h2
    clear h2
    go_enter Try.func19, Try.ntmps19
    go_wp2_with (go_at_call 32; (with_reducible refine C.out.mono ?_); rintro e w1 ⟨rfl, rfl⟩)
    go_ret
    exact ⟨by simp [H2.out], rfl⟩
  · have q : (s.st == 2) = false := by simpa using h2
    have H2 := Lib.hid h2
    clear h2
    go_enter Try.func19, Try.ntmps19
    go_wp2_with (go_at_call 32; (with_reducible refine C.out.mono ?_); rintro e w1 ⟨rfl, rfl⟩)
    go_ret
    exact ⟨by simp [H2.out], rfl⟩
set_option maxRecDepth 100000 in
theorem close_shut (B r : Nat) (k m c : Int) (v : Value) (s : St) (w : World) (hF : OkF k m c) (h : RdS w B r k m c v s) (hs : s.st = 3) : Calls Try.prog 23 #[.pointer (some ⟨r, 0, none⟩)] w fun e w' => e = .returned (.tuple #[.slice none 0 0, .int .i64 8]) ∧ w = w' := by
  have C := Lib.hid (h.some_ hF)
  have k3 : w.cell? ⟨r, 3, none⟩ = some (.int .i64 s.st) := h.blk.cell 3
  rw [hs] at k3
  clear h hF hs
  go_enter Try.func23, Try.ntmps23
  go_wp2_with (go_at_call 32; (with_reducible refine C.out.mono ?_); rintro e w1 ⟨rfl, rfl⟩)
  go_ret2
  exact ⟨rfl, rfl⟩
set_option maxRecDepth 100000 in
theorem feed_shut (B r : Nat) (k m c : Int) (v : Value) (s : St) (A : Option Addr) (n cp : Nat) (w : World) (hF : OkF k m c) (h : RdS w B r k m c v s) (hs : s.st = 3) : Calls Try.prog 17 #[.pointer (some ⟨r, 0, none⟩), .slice A n cp] w fun e w' => e = .returned (.tuple #[.slice none 0 0, .int .i64 8]) ∧ Below w.heap.size w w' := by
  have hb : Below w.heap.size w (w.alloc (.cells #[.pointer (some ⟨r, 0, none⟩)] 37)) := (Below.refl _ w).alloc (Nat.le_refl _) _
  have h1 := h.below hb
  have C := Lib.hid (h1.some_ hF)
  have k3 := h1.blk.cell 3
  simp only [List.getElem?_toArray, List.getElem?_cons_zero, List.getElem?_cons_succ, hs] at k3
  have k0 := (Blk.new w 37 #[.pointer (some ⟨r, 0, none⟩)]).cell 0
  simp only [List.getElem?_toArray, List.getElem?_cons_zero, List.getElem?_cons_succ] at k0
  obtain ⟨W0, hW0⟩ : ∃ W0, w.alloc (.cells #[.pointer (some ⟨r, 0, none⟩)] 37) = W0 := ⟨_, rfl⟩
  rw [hW0] at C k3 k0 hb
  have HW0 := Lib.hid hW0
  have HB := Lib.hid hb
  clear h h1 hF hs hb hW0
  go_enter Try.func17, Try.ntmps17
  go_upto_region 1 with fail
  rw [HW0.out]
  go_wp2_with (go_at_call 32; (with_reducible refine C.out.mono ?_); rintro e w1 ⟨rfl, rfl⟩)
  go_ret2
  exact ⟨rfl, HB.out⟩
def St.closed (s : St) : St := { s with st := 3, lost := decide (s.st = 2) }
set_option maxRecDepth 100000 in
set_option maxHeartbeats 1000000 in
theorem close_any (B r : Nat) (k m c : Int) (v : Value) (s : St) (w : World) (hF : OkF k m c) (h : RdS w B r k m c v s) (hs : s.st ≠ 3) (hn : s.begun = false) : Calls Try.prog 23 #[.pointer (some ⟨r, 0, none⟩)] w fun e w' => e = .returned (.tuple #[.slice none 0 0, .int .i64 0]) ∧ RdS w' B r k m c v s.closed ∧ Only (fun q => q = r) w w' := by
  have C := Lib.hid (h.some_ hF)
  have k3 : w.cell? ⟨r, 3, none⟩ = some (.int .i64 s.st) := h.blk.cell 3
  have k7 : w.cell? ⟨r, 7, none⟩ = some (.bool s.begun) := h.blk.cell 7
  have k9 : w.cell? ⟨r, 9, none⟩ = some (.bool s.lost) := h.blk.cell 9
  have z3 := h.blk.frozen 3
  have z9 := h.blk.frozen 9
  rw [hn] at k7
  have HN := Lib.hid hn
  have H := Lib.hid h
  have q3 : (s.st == 3) = false := by simpa using hs
  have q2 : (s.st == 2) = decide (s.st = 2) := by by_cases e : s.st = 2 <;> simp [e]
  have Q2 := Lib.hid q2
  clear h hF hs hn q2
  go_enter Try.func23, Try.ntmps23
  go_wp2_with (go_at_call 32; (with_reducible refine C.out.mono ?_); rintro e w1 ⟨rfl, rfl⟩)
  go_ret2
  have hb := (H.out.blk.set_ 9 (.bool (s.st == 2))).set_ 3 (.int .i64 3)
  simp only [List.setIfInBounds_toArray, List.set_cons_zero, List.set_cons_succ] at hb
  rw [Q2.out] at hb ⊢
  exact ⟨rfl, ⟨hb, own_setCell (own_setCell H.out.own H.out.ne _) H.out.ne _, by simpa using H.out.base, H.out.nil⟩, ((Only.refl (fun q => q = r) w).set (fun _ => rfl) 9 _).set (fun _ => rfl) 3 _⟩
set_option maxRecDepth 100000 in
set_option maxHeartbeats 1000000 in
theorem close_mid (B r : Nat) (k m c : Int) (v : Value) (s : St) (w : World) (hF : OkF k m c) (h : RdS w B r k m c v s) (hs : s.st ≠ 3) (hn : s.begun = true) : Calls Try.prog 23 #[.pointer (some ⟨r, 0, none⟩)] w fun e w' => ∃ b, e = .returned (.tuple #[.slice (some ⟨b, 0, none⟩) 1 1, .int .i64 0]) ∧ w.heap.size ≤ b ∧ Blk w' b 44 #[.int .i64 s.at_, .slice none 0 0, .int .i64 4] ∧ RdS w' B r k m c v s.closed ∧ Only (fun q => q = r) w w' := by
  have C := Lib.hid (h.some_ hF)
  have k3 : w.cell? ⟨r, 3, none⟩ = some (.int .i64 s.st) := h.blk.cell 3
  have k5 : w.cell? ⟨r, 5, none⟩ = some (.int .i64 s.at_) := h.blk.cell 5
  have k7 : w.cell? ⟨r, 7, none⟩ = some (.bool s.begun) := h.blk.cell 7
  have k9 : w.cell? ⟨r, 9, none⟩ = some (.bool s.lost) := h.blk.cell 9
  have z3 := h.blk.frozen 3
  have z9 := h.blk.frozen 9
  rw [hn] at k7
  have HN := Lib.hid hn
  have H := Lib.hid h
  have q3 : (s.st == 3) = false := by simpa using hs
  have q2 : (s.st == 2) = decide (s.st = 2) := by by_cases e : s.st = 2 <;> simp [e]
  have Q2 := Lib.hid q2
  clear h hF hs hn q2
  go_enter Try.func23, Try.ntmps23
  go_wp2_with (go_at_call 32; (with_reducible refine C.out.mono ?_); rintro e w1 ⟨rfl, rfl⟩)
  go_ret2
  have hb := (H.out.blk.set_ 9 (.bool (s.st == 2))).set_ 3 (.int .i64 3)
  simp only [List.setIfInBounds_toArray, List.set_cons_zero, List.set_cons_succ] at hb
  rw [Q2.out] at hb ⊢
  have h2 : RdS ((w.setCell ⟨r, 9, none⟩ (.bool (decide (s.st = 2)))).setCell ⟨r, 3, none⟩ (.int .i64 3)) B r k m c v s.closed := ⟨hb, own_setCell (own_setCell H.out.own H.out.ne _) H.out.ne _, by simpa using H.out.base, H.out.nil⟩
  have ho : Only (fun q => q = r) w ((w.setCell ⟨r, 9, none⟩ (.bool (decide (s.st = 2)))).setCell ⟨r, 3, none⟩ (.int .i64 3)) := ((Only.refl (fun q => q = r) w).set (fun _ => rfl) 9 _).set (fun _ => rfl) 3 _
  exact ⟨_, rfl, by simp, by have := Blk.new ((w.setCell ⟨r, 9, none⟩ (.bool (decide (s.st = 2)))).setCell ⟨r, 3, none⟩ (.int .i64 3)) 44 #[.int .i64 s.at_, .slice none 0 0, .int .i64 4]; rw [World.size_setCell, World.size_setCell] at this; exact this, h2.below ((Below.refl _ _).alloc (Nat.le_refl _) _), ho.below ((Below.refl _ _).alloc (Nat.le_refl _) _)⟩
end Go.Proofs.Ytibkhjpjneoabaa

namespace Go.Proofs.Ytibkhjpjneoabaa
open Go.RowKit
set_option linter.unusedVariables false
set_option linter.unusedSimpArgs false

/-- The cells of a reader that opened reads. -/
def RdC (r : Nat) (c : Int) (a : Nat) (W : World) : Prop := W.cell? ⟨r, 2, none⟩ = some (.int .i64 c) ∧ W.cell? ⟨r, 5, none⟩ = some (.int .i64 (a : Int)) ∧ r < W.heap.size ∧ True
theorem RdC.below {r a : Nat} {c : Int} {w W : World} (h : RdC r c a w) (hb : Below w.heap.size w W) : RdC r c a W := ⟨(hb.cell (p := ⟨r, _, none⟩) h.2.2.1).trans h.1, (hb.cell (p := ⟨r, _, none⟩) h.2.2.1).trans h.2.1, Nat.lt_of_lt_of_le h.2.2.1 hb.size, trivial⟩
theorem RdS.rdc {W : World} {B r : Nat} {k m c : Int} {v : Value} {s : St} (h : RdS W B r k m c v s) : RdC r c s.at_ W := ⟨h.blk.cell 2, h.blk.cell 5, h.blk.lt, trivial⟩
def RdB (r : Nat) (a : Nat) (bx : Nat) (W : World) : Prop := W.cell? ⟨r, 5, none⟩ = some (.int .i64 (a : Int)) ∧ r < W.heap.size ∧ bx < W.heap.size
theorem RdB.below {r a bx : Nat} {w W : World} (h : RdB r a bx w) (hb : Below w.heap.size w W) : RdB r a bx W := ⟨(hb.cell (p := ⟨r, _, none⟩) h.2.1).trans h.1, Nat.lt_of_lt_of_le h.2.1 hb.size, Nat.lt_of_lt_of_le h.2.2 hb.size⟩
/-- A result that is returned. -/
def Framed1 (w : World) (f : Fr) (e : Ending) (w' : World) : Prop := ∃ A n cp, e = .returned (.agg #[.int .i64 (f.at_ : Int), .slice A n cp, .int .i64 f.code]) ∧ w'.ownsRow w.heap.size 5 1 (.slice A n cp) n (f.bytes.map u8) ∧ Below w.heap.size w w'
theorem fr_res1 {fn : Func} {tmps : Array Value} {W : World} {bx : Nat} {x y z : Value} (hf : fn.results = Try.f50.results) (h4 : tmps.getD 4 undef = .pointer (some ⟨bx, 0, none⟩)) (hb : Blk W bx 44 #[x, y, z]) : (results fn tmps).run Try.prog W = .ok (.agg #[x, y, z]) W := by
  have e : results fn tmps = results Try.f50 tmps := by unfold results; rw [hf]
  rw [e]
  have c0 : W.cell? ⟨bx, 0, none⟩ = some x := hb.cell 0
  have c1 : W.cell? ⟨bx, 1, none⟩ = some y := hb.cell 1
  have c2 : W.cell? ⟨bx, 2, none⟩ = some z := hb.cell 2
  simp at h4
  simp [results, Try.results50, go_sem, h4, c0, c1, c2]
theorem blk_set3 {W : World} {bx : Nat} {x y z x' y' z' : Value} (hb : Blk W bx 44 #[x, y, z]) : Blk (((W.setCell ⟨bx, 0, none⟩ x').setCell ⟨bx, 1, none⟩ y').setCell ⟨bx, 2, none⟩ z') bx 44 #[x', y', z'] := by
  have := ((hb.set_ 0 x').set_ 1 y').set_ 2 z'
  simpa using this
theorem below_set3 {w W : World} {B bx : Nat} {x y z : Value} (h : Below B w W) (hB : B ≤ bx) : Below B w (((W.setCell ⟨bx, 0, none⟩ x).setCell ⟨bx, 1, none⟩ y).setCell ⟨bx, 2, none⟩ z) := Below.setCell (Below.setCell (Below.setCell h (by simpa using hB) _) (by simpa using hB) _) (by simpa using hB) _

set_option maxRecDepth 100000 in
set_option maxHeartbeats 2000000 in
theorem opened_any (r : Nat) (c : Int) (a : Nat) (h0 : 0 ≤ c) (h3 : c ≤ 3) (A : Option Addr) (n cp : Nat) (l : List UInt8) (w : World) (hc : RdC r c a w) (hr : RB w A n cp l) (hn : n ≤ 50000) :
    Calls Try.prog 50 #[.pointer (some ⟨r, 0, none⟩), .slice A n cp] w (Framed1 w (openS c a l)) := by
  obtain ⟨W0, hW0⟩ : ∃ W0, w.alloc (.cells #[.int .i64 0, .slice none 0 0, .int .i64 0] 44) = W0 := ⟨_, rfl⟩
  have hb0 : Below w.heap.size w W0 := hW0 ▸ (Below.refl _ w).alloc (Nat.le_refl _) _
  have kx : Blk W0 w.heap.size 44 #[.int .i64 0, .slice none 0 0, .int .i64 0] := hW0 ▸ Blk.new w 44 _
  have HW0 := Lib.hid hW0
  have HB0 := Lib.hid hb0
  have HKX := Lib.hid kx
  have HC := Lib.hid (hc.below hb0)
  have HR := Lib.hid (hr.below hb0)
  have HN := Lib.hid hn
  have HF := Lib.hid (show 0 ≤ c ∧ c ≤ 3 from ⟨h0, h3⟩)
  have C29 := Lib.hid (sum_any c h0 h3 none 0 0 [] W0 (RB.nil W0) (by omega))
  have k2 := HC.out.1
  have htq := tailN_le c
  have hn2 : (n : Int) ≤ 50000 := by omega
  have ht2 : (tailN c : Int) ≤ 4 := by omega
  clear hW0 hb0 kx hc hr hn h0 h3 htq
  go_enter Try.func50, Try.ntmps50
  go_upto_region 1 with fail
  rw [HW0.out]
  clear HW0
  go_wp2_with (go_at_call 29; (with_reducible refine C29.out.mono ?_); rintro e w2 ⟨A1, c1, rfl, -, b1⟩; refine Hid.out ?_)
  refine Lib.hid ?_
  have HB1 := Lib.hid b1
  have HK2 := Lib.hid (HKX.out.below b1 HKX.out.lt)
  have HC2 := Lib.hid (HC.out.below b1)
  have HR2 := Lib.hid (HR.out.below b1)
  have HBW := Lib.hid (HB0.out.trans (b1.mono HB0.out.size))
  clear b1 k2 HC HR HKX
  by_cases hlt : n < tailN c
  · have q1 : (n : Int) < (tailN c : Int) := by omega
    have HE := Lib.hid (show openS c a l = ⟨a, [], 4⟩ by unfold openS; rw [if_pos (by rw [HR2.out.len]; exact hlt)])
    have k5 := HC2.out.2.1
    obtain ⟨f0, f1, f2⟩ : w2.cell? ⟨w.heap.size, 0, none⟩ = some (.int .i64 0) ∧ w2.cell? ⟨w.heap.size, 1, none⟩ = some (.slice none 0 0) ∧ w2.cell? ⟨w.heap.size, 2, none⟩ = some (.int .i64 0) := ⟨HK2.out.cell 0, HK2.out.cell 1, HK2.out.cell 2⟩
    have z0 := HK2.out.frozen 0
    have z1 := HK2.out.frozen 1
    have z2 := HK2.out.frozen 2
    clear hlt
    go_wp2_with fail
    refine bodyPost_ret (v := .agg #[.int .i64 (a : Int), .slice none 0 0, .int .i64 4]) (fr_res1 rfl rfl (blk_set3 HK2.out)) rfl ⟨none, 0, 0, by rw [HE.out], by rw [HE.out]; exact World.ownsRow_nil _ _ 5 1, below_set3 HBW.out (Nat.le_refl _)⟩
  · obtain ⟨q, hq⟩ : ∃ q, n = q + tailN c := ⟨n - tailN c, by omega⟩
    have hqi : (n : Int) - (tailN c : Int) = (q : Int) := by omega
    have HQ := Lib.hid (show q ≤ n by omega)
    have HQE := Lib.hid hqi
    have HLN := Lib.hid (show l.length - tailN c = q by rw [HR2.out.len]; omega)
    have HLG := Lib.hid (show ¬ l.length < tailN c by rw [HR2.out.len]; exact hlt)
    have hq0 : (0 : Int) ≤ (q : Int) := by omega
    clear hq
    go_upto_region 4 with fail
    obtain ⟨At, ct, ht1, hrt, -⟩ := slice_to w2 A n cp q l HR2.out (by have := HQ.out; omega)
    obtain ⟨Af, cf, hf1, hrf, -⟩ := slice_from w2 A n cp q l HR2.out (by have := HQ.out; omega)
    obtain ⟨At2, ct2, hu1, hru, -⟩ := slice_to2 w2 A n cp q l HR2.out (by have := HQ.out; omega)
    have HST := Lib.hid ht1
    have HSF := Lib.hid hf1
    have HST2 := Lib.hid hu1
    have HRT := Lib.hid hrt
    have HRF := Lib.hid hrf
    have HRU := Lib.hid hru
    have HS4 := Lib.hid (HC2.out.below (below_drew (Below.refl _ w2)))
    have HC := HC2
    clear ht1 hf1 hu1 hrt hrf hru hqi hn2 ht2 hq0 hlt
    refine wp_region_G (S0 := (RdC r c a)) (S1 := (RdC r c a)) (c := 99) (by kernel_rfl) ?_
    have hHeld := HS4.out
    have h01 := (fun (W : World) (h : (RdC r c a) W) => h)
    refine wpG_takeB (i := 0) (oi := ⟨some 25, _, _, _, _, _⟩) (v := .pointer (some ⟨r, 0, none⟩)) rfl (by kernel_rfl) (by kernel_rfl) (by kernel_rfl) (by decide) (fun _ _ _ h => h) h01 rfl hHeld (Or.inl ⟨by rfl, ?_⟩) ?_
    · (intro W9 hSw; obtain ⟨v1, v2, v3, v4⟩ := hSw; have s1 := HST.out; have s2 := HSF.out; go_simp; (try (first | with_reducible rfl | rfl)))
    try simp only [Act.put, List.setIfInBounds_toArray, List.set_cons_zero, List.set_cons_succ]
    refine wpG_takeB (i := 1) (oi := ⟨some 26, _, _, _, _, _⟩) (v := .pointer (some ⟨r, 0, none⟩)) rfl (by kernel_rfl) (by kernel_rfl) (by kernel_rfl) (by decide) (fun _ _ _ h => h) h01 rfl hHeld (Or.inl ⟨by rfl, ?_⟩) ?_
    · (intro W9 hSw; obtain ⟨v1, v2, v3, v4⟩ := hSw; have s1 := HST.out; have s2 := HSF.out; go_simp; (try (first | with_reducible rfl | rfl)))
    try simp only [Act.put, List.setIfInBounds_toArray, List.set_cons_zero, List.set_cons_succ]
    refine wpG_takeB (i := 2) (oi := ⟨some 27, _, _, _, _, _⟩) (v := .pointer (some ⟨r, 0, none⟩)) rfl (by kernel_rfl) (by kernel_rfl) (by kernel_rfl) (by decide) (fun _ _ _ h => h) h01 rfl hHeld (Or.inl ⟨by rfl, ?_⟩) ?_
    · (intro W9 hSw; obtain ⟨v1, v2, v3, v4⟩ := hSw; have s1 := HST.out; have s2 := HSF.out; go_simp; (try (first | with_reducible rfl | rfl)))
    try simp only [Act.put, List.setIfInBounds_toArray, List.set_cons_zero, List.set_cons_succ]
    refine wpG_takeB (i := 3) (oi := ⟨some 28, _, _, _, _, _⟩) (v := .pointer (some ⟨r, 2, none⟩)) rfl (by kernel_rfl) (by kernel_rfl) (by kernel_rfl) (by decide) (fun _ _ _ h => h) h01 rfl hHeld (Or.inl ⟨by rfl, ?_⟩) ?_
    · (intro W9 hSw; obtain ⟨v1, v2, v3, v4⟩ := hSw; have s1 := HST.out; have s2 := HSF.out; go_simp; (try (first | with_reducible rfl | rfl)))
    try simp only [Act.put, List.setIfInBounds_toArray, List.set_cons_zero, List.set_cons_succ]
    refine wpG_takeB (i := 4) (oi := ⟨some 29, _, _, _, _, _⟩) (v := .int .i64 c) rfl (by kernel_rfl) (by kernel_rfl) (by kernel_rfl) (by decide) (fun _ _ _ h => h) h01 rfl hHeld (Or.inl ⟨by rfl, ?_⟩) ?_
    · (intro W9 hSw; obtain ⟨v1, v2, v3, v4⟩ := hSw; have s1 := HST.out; have s2 := HSF.out; go_simp; (try (first | with_reducible rfl | rfl)))
    try simp only [Act.put, List.setIfInBounds_toArray, List.set_cons_zero, List.set_cons_succ]
    refine wpG_takeB (i := 5) (oi := ⟨some 30, _, _, _, _, _⟩) (v := .slice A n cp) rfl (by kernel_rfl) (by kernel_rfl) (by kernel_rfl) (by decide) (fun _ _ _ h => h) h01 rfl hHeld (Or.inl ⟨by rfl, ?_⟩) ?_
    · (intro W9 hSw; obtain ⟨v1, v2, v3, v4⟩ := hSw; have s1 := HST.out; have s2 := HSF.out; go_simp; (try (first | with_reducible rfl | rfl)))
    try simp only [Act.put, List.setIfInBounds_toArray, List.set_cons_zero, List.set_cons_succ]
    refine wpG_takeB (i := 6) (oi := ⟨some 31, _, _, _, _, _⟩) (v := .int .i64 (q : Int)) rfl (by kernel_rfl) (by kernel_rfl) (by kernel_rfl) (by decide) (fun _ _ _ h => h) h01 rfl hHeld (Or.inl ⟨by rfl, ?_⟩) ?_
    · (intro W9 hSw; obtain ⟨v1, v2, v3, v4⟩ := hSw; have s1 := HST.out; have s2 := HSF.out; go_simp; (try (first | with_reducible rfl | rfl)))
    try simp only [Act.put, List.setIfInBounds_toArray, List.set_cons_zero, List.set_cons_succ]
    refine wpG_takeB (i := 7) (oi := ⟨some 32, _, _, _, _, _⟩) (v := .slice At q ct) rfl (by kernel_rfl) (by kernel_rfl) (by kernel_rfl) (by decide) (fun _ _ _ h => h) h01 rfl hHeld (Or.inl ⟨by rfl, ?_⟩) ?_
    · (intro W9 hSw; obtain ⟨v1, v2, v3, v4⟩ := hSw; have s1 := HST.out; have s2 := HSF.out; go_simp; (try (first | with_reducible rfl | rfl)))
    try simp only [Act.put, List.setIfInBounds_toArray, List.set_cons_zero, List.set_cons_succ]
    refine wpG_takeB (i := 9) (oi := ⟨some 34, _, _, _, _, _⟩) (v := .slice A n cp) rfl (by kernel_rfl) (by kernel_rfl) (by kernel_rfl) (by decide) (fun _ _ _ h => h) h01 rfl hHeld (Or.inl ⟨by rfl, ?_⟩) ?_
    · (intro W9 hSw; obtain ⟨v1, v2, v3, v4⟩ := hSw; have s1 := HST.out; have s2 := HSF.out; go_simp; (try (first | with_reducible rfl | rfl)))
    try simp only [Act.put, List.setIfInBounds_toArray, List.set_cons_zero, List.set_cons_succ]
    refine wpG_takeB (i := 10) (oi := ⟨some 35, _, _, _, _, _⟩) (v := .int .i64 (q : Int)) rfl (by kernel_rfl) (by kernel_rfl) (by kernel_rfl) (by decide) (fun _ _ _ h => h) h01 rfl hHeld (Or.inl ⟨by rfl, ?_⟩) ?_
    · (intro W9 hSw; obtain ⟨v1, v2, v3, v4⟩ := hSw; have s1 := HST.out; have s2 := HSF.out; go_simp; (try (first | with_reducible rfl | rfl)))
    try simp only [Act.put, List.setIfInBounds_toArray, List.set_cons_zero, List.set_cons_succ]
    refine wpG_takeB (i := 11) (oi := ⟨some 36, _, _, _, _, _⟩) (v := .slice Af (n - q) cf) rfl (by kernel_rfl) (by kernel_rfl) (by kernel_rfl) (by decide) (fun _ _ _ h => h) h01 rfl hHeld (Or.inl ⟨by rfl, ?_⟩) ?_
    · (intro W9 hSw; obtain ⟨v1, v2, v3, v4⟩ := hSw; have s1 := HST.out; have s2 := HSF.out; go_simp; (try (first | with_reducible rfl | rfl)))
    try simp only [Act.put, List.setIfInBounds_toArray, List.set_cons_zero, List.set_cons_succ]
    refine wpG_oneB (i := 8) (o := ⟨some 33, _, _, _, _, _⟩) (by kernel_rfl) rfl rfl (fun K hK => ?_)
    go_simp
    (with_reducible refine (sum_any c HF.out.1 HF.out.2 At q ct (l.take q) w2.drew (HRT.out.below (below_drew (Below.refl _ _))) (by have := HN.out; have := HQ.out; omega)).mono ?_); rintro e w5 ⟨A5, c5, rfl, ho5, b5⟩
    have HO5 := Lib.hid ho5
    have HB5 := Lib.hid (Below.trans (below_drew (Below.refl w2.heap.size w2)) b5)
    have HRD5 := Lib.hid (HRF.out.below HB5.out)
    have HC5 := Lib.hid (HC.out.below HB5.out)
    clear ho5 b5
    refine hK.out _ _ HC5.out (fun hHeld => ?_)
    clear hK K
    try simp only [Act.put, List.setIfInBounds_toArray, List.set_cons_zero, List.set_cons_succ]
    refine wpG_oneB (i := 12) (o := ⟨some 37, _, _, _, _, _⟩) (by kernel_rfl) rfl rfl (fun K hK => ?_)
    go_simp
    (with_reducible refine (equal_any A5 Af (tailN c) (n - q) c5 cf (sumB c (l.take q)) (l.drop q) w5 (own_RB3 HO5.out) HRD5.out).mono ?_); rintro e w6 ⟨rfl, rfl⟩
    refine hK.out _ _ HC5.out (fun hHeld => ?_)
    clear hK K
    try simp only [Act.put, List.setIfInBounds_toArray, List.set_cons_zero, List.set_cons_succ]
    refine wpG_takeB (i := 13) (oi := ⟨some 38, _, _, _, _, _⟩) (v := .bool (!decide (sumB c (l.take q) = l.drop q))) rfl (by kernel_rfl) (by kernel_rfl) (by kernel_rfl) (by decide) (fun _ _ _ h => h) h01 rfl hHeld (Or.inl ⟨by rfl, ?_⟩) ?_
    · (intro W9 hSw; obtain ⟨v1, v2, v3, v4⟩ := hSw; have s1 := HST.out; have s2 := HSF.out; go_simp; (try (first | with_reducible rfl | rfl)))
    try simp only [Act.put, List.setIfInBounds_toArray, List.set_cons_zero, List.set_cons_succ]
    refine wpG_takeB (i := 14) (oi := ⟨some 24, _, _, _, _, _⟩) (v := .bool (!decide (sumB c (l.take q) = l.drop q))) rfl (by kernel_rfl) (by kernel_rfl) (by kernel_rfl) (by decide) (fun _ _ _ h => h) h01 rfl hHeld (Or.inl ⟨by rfl, ?_⟩) ?_
    · (intro W9 hSw; obtain ⟨v1, v2, v3, v4⟩ := hSw; have s1 := HST.out; have s2 := HSF.out; go_simp; (try (first | with_reducible rfl | rfl)))
    try simp only [Act.put, List.setIfInBounds_toArray, List.set_cons_zero, List.set_cons_succ]
    refine wpG_done (by kernel_rfl) ?_ _
    clear hHeld h01
    by_cases heq : sumB c (l.take q) = l.drop q
    · have q1 : (!decide (sumB c (l.take q) = l.drop q)) = false := by simp [heq]
      have HE := Lib.hid (show openS c a l = ⟨a, l.take q, 0⟩ by unfold openS; rw [if_neg HLG.out, HLN.out, if_pos heq])
      clear heq
      rw [q1]
      clear q1
      go_upto_region 6 with fail
      obtain ⟨w6, hw6⟩ : ∃ w6, w5 = w6 := ⟨_, rfl⟩
      subst hw6
      have HRT6 := Lib.hid (HRU.out.below HB5.out)
      have HKX := Lib.hid (HK2.out.below HB5.out HK2.out.lt)
      have HLT7 := Lib.hid (show (l.take q).length = q by rw [List.length_take, HR2.out.len]; have := HQ.out; omega)
      obtain ⟨bx, hbx⟩ : ∃ bx, w.heap.size = bx := ⟨_, rfl⟩
      have HBX := Lib.hid hbx
      rw [hbx] at HKX ⊢
      clear hbx
      have HS6 := Lib.hid (show RdB r a bx w5.drew from (show RdB r a bx w5 from ⟨HC5.out.2.1, HC5.out.2.2.1, HKX.out.lt⟩).below (below_drew (Below.refl _ w5)))
      refine wp_region_G (S0 := (RdB r a bx)) (S1 := (fun _ => True)) (c := 10) (by kernel_rfl) ?_
      have hHeld := HS6.out
      have h01 := (fun (W : World) (h : (RdB r a bx) W) => trivial)
      refine wpG_take0 (i := 0) (oi := ⟨some 44, _, _, _, _, _⟩) (v := .pointer (some ⟨r, 0, none⟩)) rfl (by kernel_rfl) (by kernel_rfl) (by kernel_rfl) (by decide) (by kernel_rfl) (fun _ _ _ h => h) rfl hHeld (Or.inl ⟨by rfl, ?_⟩) ?_
      · (intro W9 hSw; obtain ⟨v1, v2, v3⟩ := hSw; have s1 := HST2.out; go_simp; (try (first | with_reducible rfl | rfl)))
      try simp only [Act.put, List.setIfInBounds_toArray, List.set_cons_zero, List.set_cons_succ]
      refine wpG_take0 (i := 1) (oi := ⟨some 45, _, _, _, _, _⟩) (v := .pointer (some ⟨r, 0, none⟩)) rfl (by kernel_rfl) (by kernel_rfl) (by kernel_rfl) (by decide) (by kernel_rfl) (fun _ _ _ h => h) rfl hHeld (Or.inl ⟨by rfl, ?_⟩) ?_
      · (intro W9 hSw; obtain ⟨v1, v2, v3⟩ := hSw; have s1 := HST2.out; go_simp; (try (first | with_reducible rfl | rfl)))
      try simp only [Act.put, List.setIfInBounds_toArray, List.set_cons_zero, List.set_cons_succ]
      refine wpG_take0 (i := 2) (oi := ⟨some 46, _, _, _, _, _⟩) (v := .pointer (some ⟨r, 5, none⟩)) rfl (by kernel_rfl) (by kernel_rfl) (by kernel_rfl) (by decide) (by kernel_rfl) (fun _ _ _ h => h) rfl hHeld (Or.inl ⟨by rfl, ?_⟩) ?_
      · (intro W9 hSw; obtain ⟨v1, v2, v3⟩ := hSw; have s1 := HST2.out; go_simp; (try (first | with_reducible rfl | rfl)))
      try simp only [Act.put, List.setIfInBounds_toArray, List.set_cons_zero, List.set_cons_succ]
      refine wpG_take0 (i := 3) (oi := ⟨some 47, _, _, _, _, _⟩) (v := .int .i64 (a : Int)) rfl (by kernel_rfl) (by kernel_rfl) (by kernel_rfl) (by decide) (by kernel_rfl) (fun _ _ _ h => h) rfl hHeld (Or.inl ⟨by rfl, ?_⟩) ?_
      · (intro W9 hSw; obtain ⟨v1, v2, v3⟩ := hSw; have s1 := HST2.out; go_simp; (try (first | with_reducible rfl | rfl)))
      try simp only [Act.put, List.setIfInBounds_toArray, List.set_cons_zero, List.set_cons_succ]
      refine wpG_take0 (i := 4) (oi := ⟨some 48, _, _, _, _, _⟩) (v := .slice A n cp) rfl (by kernel_rfl) (by kernel_rfl) (by kernel_rfl) (by decide) (by kernel_rfl) (fun _ _ _ h => h) rfl hHeld (Or.inl ⟨by rfl, ?_⟩) ?_
      · (intro W9 hSw; obtain ⟨v1, v2, v3⟩ := hSw; have s1 := HST2.out; go_simp; (try (first | with_reducible rfl | rfl)))
      try simp only [Act.put, List.setIfInBounds_toArray, List.set_cons_zero, List.set_cons_succ]
      refine wpG_take0 (i := 5) (oi := ⟨some 49, _, _, _, _, _⟩) (v := .int .i64 (q : Int)) rfl (by kernel_rfl) (by kernel_rfl) (by kernel_rfl) (by decide) (by kernel_rfl) (fun _ _ _ h => h) rfl hHeld (Or.inl ⟨by rfl, ?_⟩) ?_
      · (intro W9 hSw; obtain ⟨v1, v2, v3⟩ := hSw; have s1 := HST2.out; go_simp; (try (first | with_reducible rfl | rfl)))
      try simp only [Act.put, List.setIfInBounds_toArray, List.set_cons_zero, List.set_cons_succ]
      refine wpG_take0 (i := 6) (oi := ⟨some 50, _, _, _, _, _⟩) (v := .int .i64 (q : Int)) rfl (by kernel_rfl) (by kernel_rfl) (by kernel_rfl) (by decide) (by kernel_rfl) (fun _ _ _ h => h) rfl hHeld (Or.inl ⟨by rfl, ?_⟩) ?_
      · (intro W9 hSw; obtain ⟨v1, v2, v3⟩ := hSw; have s1 := HST2.out; go_simp; (try (first | with_reducible rfl | rfl)))
      try simp only [Act.put, List.setIfInBounds_toArray, List.set_cons_zero, List.set_cons_succ]
      refine wpG_take0 (i := 7) (oi := ⟨some 51, _, _, _, _, _⟩) (v := .slice At2 q ct2) rfl (by kernel_rfl) (by kernel_rfl) (by kernel_rfl) (by decide) (by kernel_rfl) (fun _ _ _ h => h) rfl hHeld (Or.inl ⟨by rfl, ?_⟩) ?_
      · (intro W9 hSw; obtain ⟨v1, v2, v3⟩ := hSw; have s1 := HST2.out; go_simp; (try (first | with_reducible rfl | rfl)))
      try simp only [Act.put, List.setIfInBounds_toArray, List.set_cons_zero, List.set_cons_succ]
      refine wpG_oneA (i := 8) (o := ⟨some 52, _, _, _, _, _⟩) (by kernel_rfl) rfl rfl (fun K hK => ?_)
      go_simp
      (with_reducible refine (clone_any At2 q ct2 (l.take q) w5.drew (by have := HN.out; have := HQ.out; omega) (HRT6.out.below (below_drew (Below.refl _ _)))).mono ?_); rintro e w7 ⟨v7, rfl, ho7, b7⟩
      rw [HLT7.out] at ho7
      obtain ⟨A7, c7, rfl, -⟩ := own_form ho7
      have HO7 := Lib.hid ho7
      have HB7 := Lib.hid (Below.trans (below_drew (Below.refl w5.heap.size w5)) b7)
      have HC7 := Lib.hid (HS6.out.below b7)
      have HK7 := Lib.hid (HKX.out.below HB7.out HKX.out.lt)
      clear ho7 b7
      refine hK.out _ _ HC7.out (fun hHeld => ?_)
      clear hK K
      try simp only [Act.put, List.setIfInBounds_toArray, List.set_cons_zero, List.set_cons_succ]
      refine wpG_takeA (i := 9) (oi := ⟨some 53, _, _, _, _, _⟩) (v := .agg #[.int .i64 (a : Int), .slice A7 q c7, .int .i64 0]) rfl (by kernel_rfl) (by kernel_rfl) (by kernel_rfl) (by decide) (fun _ _ _ h => h) h01 rfl hHeld (Or.inl ⟨by rfl, ?_⟩) ?_
      · (intro W9 hSw; go_simp; (try (first | with_reducible rfl | rfl)))
      try simp only [Act.put, List.setIfInBounds_toArray, List.set_cons_zero, List.set_cons_succ]
      refine wpG_oneB (i := 10) (o := ⟨none, _, _, _, _, _⟩) (by kernel_rfl) rfl rfl (fun K hK => ?_)
      obtain ⟨f0, f1, f2⟩ : w7.cell? ⟨bx, 0, none⟩ = some (.int .i64 0) ∧ w7.cell? ⟨bx, 1, none⟩ = some (.slice none 0 0) ∧ w7.cell? ⟨bx, 2, none⟩ = some (.int .i64 0) := ⟨HK7.out.cell 0, HK7.out.cell 1, HK7.out.cell 2⟩
      have z0 := HK7.out.frozen 0
      have z1 := HK7.out.frozen 1
      have z2 := HK7.out.frozen 2
      go_simp
      refine hK.out _ _ trivial (fun hHeld => ?_)
      clear hK K
      try simp only [Act.put, List.setIfInBounds_toArray, List.set_cons_zero, List.set_cons_succ]
      refine wpG_done (by kernel_rfl) ?_ _
      clear hHeld h01
      go_wp2_with fail
      have hlq := HLT7.out
      refine bodyPost_ret (v := .agg #[.int .i64 (a : Int), .slice A7 q c7, .int .i64 0]) (fr_res1 rfl rfl (blk_set3 HK7.out)) rfl ⟨A7, q, c7, by rw [HE.out], ?_, ?_⟩
      · rw [HE.out]
        have hne := own_ne HO7.out HK7.out (by decide)
        exact own_base (own_setCell (own_setCell (own_setCell HO7.out hne _) hne _) hne _) (Nat.le_trans HBW.out.size (Nat.le_trans HB5.out.size (by simp)))
      · exact below_set3 ((HBW.out.trans (HB5.out.mono HBW.out.size)).trans (HB7.out.mono (Nat.le_trans HBW.out.size HB5.out.size))) (Nat.le_of_eq HBX.out)
    · have q1 : (!decide (sumB c (l.take q) = l.drop q)) = true := by simp [heq]
      have HE := Lib.hid (show openS c a l = ⟨a, [], 10⟩ by unfold openS; rw [if_neg HLG.out, HLN.out, if_neg heq])
      clear heq
      rw [q1]
      clear q1
      have HK5 := Lib.hid (HK2.out.below HB5.out HK2.out.lt)
      have k5 := HC5.out.2.1
      obtain ⟨f0, f1, f2⟩ : w5.cell? ⟨w.heap.size, 0, none⟩ = some (.int .i64 0) ∧ w5.cell? ⟨w.heap.size, 1, none⟩ = some (.slice none 0 0) ∧ w5.cell? ⟨w.heap.size, 2, none⟩ = some (.int .i64 0) := ⟨HK5.out.cell 0, HK5.out.cell 1, HK5.out.cell 2⟩
      have z0 := HK5.out.frozen 0
      have z1 := HK5.out.frozen 1
      have z2 := HK5.out.frozen 2
      go_wp2_with fail
      refine bodyPost_ret (v := .agg #[.int .i64 (a : Int), .slice none 0 0, .int .i64 10]) (fr_res1 rfl rfl (blk_set3 HK5.out)) rfl ⟨none, 0, 0, by rw [HE.out], by rw [HE.out]; exact World.ownsRow_nil _ _ 5 1, below_set3 (HBW.out.trans (HB5.out.mono HBW.out.size)) (Nat.le_refl _)⟩
end Go.Proofs.Ytibkhjpjneoabaa

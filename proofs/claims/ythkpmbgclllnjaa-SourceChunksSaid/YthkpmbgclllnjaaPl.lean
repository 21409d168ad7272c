/- The law's kind and play, over what the methods do. -/
import Derived.Test.YthkpmbgclllnjaaFe
namespace Go.Proofs.Ythkpmbgclllnjaa
open Go.RowKit
set_option linter.unusedVariables false
set_option linter.unusedSimpArgs false

theorem foura (W : World) (g : Nat) (t : TypeId) (p q r s : Value) (h : Blk W g t #[p, q, r, s]) : W.cell? ⟨g, 0, none⟩ = some p ∧ W.cell? ⟨g, 1, none⟩ = some q ∧ W.cell? ⟨g, 2, none⟩ = some r ∧ W.cell? ⟨g, 3, none⟩ = some s := ⟨h.cell 0, h.cell 1, h.cell 2, h.cell 3⟩
section
variable {w : World} {kb N y : Int} {X : Option Addr} {mx cx : Nat}
set_option maxRecDepth 100000 in
theorem kind_any (kb : Int) (h0 : 0 ≤ kb) (h1 : kb < 256) (K : Int) (hK : kb % 7 = K) (W : World) : Calls Try.prog 24 #[.agg #[.int .u8 kb, .slice X mx cx, .int .i64 N, .int .u8 y]] W fun e w' => e = .returned (.int .i64 K) ∧ Below W.heap.size W w' := by
  have HK := Lib.hid hK
  clear hK
  go_enter Try.func24, Try.ntmps24
  go_wp2_with fail
  refine bodyPost_ret (v := .int .i64 (kb % 7)) (by simp [results, Try.results24, go_sem]) rfl ⟨by rw [HK.out], (Below.refl _ _).alloc (Nat.le_refl _) _⟩

set_option maxRecDepth 100000 in
set_option maxHeartbeats 1000000 in
theorem play_feed (p : Option Addr) (h0 : 0 ≤ kb) (h1 : kb < 256) (hK : kb % 7 = 0) (R : Int → World → Prop) (hc : ∀ W, Below w.heap.size w W → Calls Try.prog 10 #[.pointer p, .slice X mx cx] W fun e w' => ∃ E, e = .returned (.int .i64 E) ∧ R E w') :
    Calls Try.prog 23 #[.pointer p, .agg #[.int .u8 kb, .slice X mx cx, .int .i64 N, .int .u8 y]] w fun e w' => ∃ E, e = .returned (.tuple #[.slice none 0 0, .int .i64 E]) ∧ R E w' := by
  have C24 := Lib.hid (fun W => kind_any (X := X) (mx := mx) (cx := cx) (N := N) (y := y) kb h0 h1 _ hK W)
  have HC := Lib.hid hc
  have HB0 := Lib.hid (Blk.new w 53 #[.int .u8 kb, .slice X mx cx, .int .i64 N, .int .u8 y])
  have HB := Lib.hid ((Below.refl _ w).alloc (Nat.le_refl _) (.cells #[.int .u8 kb, .slice X mx cx, .int .i64 N, .int .u8 y] 53))
  clear hc hK h0 h1
  go_enter Try.func23, Try.ntmps23
  go_wp2_with (first
    | (go_at_call 24; (with_reducible refine (C24.out _).mono ?_); rintro e w1 ⟨rfl, b1⟩; obtain ⟨a0, a1, a2, a3⟩ := foura _ _ _ _ _ _ _ (HB0.out.below b1 HB0.out.lt); have HC1 := Lib.hid (HC.out w1 (HB.out.trans (b1.mono HB.out.size))); clear b1)
    | (go_at_call 10; (with_reducible refine HC1.out.mono ?_); rintro e w2 ⟨E2, rfl, r2⟩; have HR := Lib.hid r2; clear r2))
  exact bodyPost_ret (v := .tuple #[.slice none 0 0, .int .i64 E2]) (by simp [results, Try.results23, go_sem]) rfl ⟨E2, rfl, HR.out⟩
set_option maxRecDepth 100000 in
set_option maxHeartbeats 1000000 in
theorem play_peek (p : Option Addr) (h0 : 0 ≤ kb) (h1 : kb < 256) (hK : kb % 7 = 1) (R : Option Addr → Nat → Nat → Int → World → Prop) (hc : ∀ W, Below w.heap.size w W → Calls Try.prog 27 #[.pointer p, .int .i64 N] W fun e w' => ∃ A k c E, e = .returned (.tuple #[.slice A k c, .int .i64 E]) ∧ R A k c E w') :
    Calls Try.prog 23 #[.pointer p, .agg #[.int .u8 kb, .slice X mx cx, .int .i64 N, .int .u8 y]] w fun e w' => ∃ A k c E, e = .returned (.tuple #[.slice A k c, .int .i64 E]) ∧ R A k c E w' := by
  have C24 := Lib.hid (fun W => kind_any (X := X) (mx := mx) (cx := cx) (N := N) (y := y) kb h0 h1 _ hK W)
  have HC := Lib.hid hc
  have HB0 := Lib.hid (Blk.new w 53 #[.int .u8 kb, .slice X mx cx, .int .i64 N, .int .u8 y])
  have HB := Lib.hid ((Below.refl _ w).alloc (Nat.le_refl _) (.cells #[.int .u8 kb, .slice X mx cx, .int .i64 N, .int .u8 y] 53))
  clear hc hK h0 h1
  go_enter Try.func23, Try.ntmps23
  go_wp2_with (first
    | (go_at_call 24; (with_reducible refine (C24.out _).mono ?_); rintro e w1 ⟨rfl, b1⟩; obtain ⟨a0, a1, a2, a3⟩ := foura _ _ _ _ _ _ _ (HB0.out.below b1 HB0.out.lt); have HC1 := Lib.hid (HC.out w1 (HB.out.trans (b1.mono HB.out.size))); clear b1)
    | (go_at_call 27; (with_reducible refine HC1.out.mono ?_); rintro e w2 ⟨A2, k2, c2, E2, rfl, r2⟩; have HR := Lib.hid r2; clear r2))
  exact bodyPost_ret (v := .tuple #[.slice A2 k2 c2, .int .i64 E2]) (by simp [results, Try.results23, go_sem]) rfl ⟨A2, k2, c2, E2, rfl, HR.out⟩
set_option maxRecDepth 100000 in
set_option maxHeartbeats 1000000 in
theorem play_take (p : Option Addr) (h0 : 0 ≤ kb) (h1 : kb < 256) (hK : kb % 7 = 2) (R : Option Addr → Nat → Nat → Int → World → Prop) (hc : ∀ W, Below w.heap.size w W → Calls Try.prog 11 #[.pointer p, .int .i64 N] W fun e w' => ∃ A k c E, e = .returned (.tuple #[.slice A k c, .int .i64 E]) ∧ R A k c E w') :
    Calls Try.prog 23 #[.pointer p, .agg #[.int .u8 kb, .slice X mx cx, .int .i64 N, .int .u8 y]] w fun e w' => ∃ A k c E, e = .returned (.tuple #[.slice A k c, .int .i64 E]) ∧ R A k c E w' := by
  have C24 := Lib.hid (fun W => kind_any (X := X) (mx := mx) (cx := cx) (N := N) (y := y) kb h0 h1 _ hK W)
  have HC := Lib.hid hc
  have HB0 := Lib.hid (Blk.new w 53 #[.int .u8 kb, .slice X mx cx, .int .i64 N, .int .u8 y])
  have HB := Lib.hid ((Below.refl _ w).alloc (Nat.le_refl _) (.cells #[.int .u8 kb, .slice X mx cx, .int .i64 N, .int .u8 y] 53))
  clear hc hK h0 h1
  go_enter Try.func23, Try.ntmps23
  go_wp2_with (first
    | (go_at_call 24; (with_reducible refine (C24.out _).mono ?_); rintro e w1 ⟨rfl, b1⟩; obtain ⟨a0, a1, a2, a3⟩ := foura _ _ _ _ _ _ _ (HB0.out.below b1 HB0.out.lt); have HC1 := Lib.hid (HC.out w1 (HB.out.trans (b1.mono HB.out.size))); clear b1)
    | (go_at_call 11; (with_reducible refine HC1.out.mono ?_); rintro e w2 ⟨A2, k2, c2, E2, rfl, r2⟩; have HR := Lib.hid r2; clear r2))
  exact bodyPost_ret (v := .tuple #[.slice A2 k2 c2, .int .i64 E2]) (by simp [results, Try.results23, go_sem]) rfl ⟨A2, k2, c2, E2, rfl, HR.out⟩
set_option maxRecDepth 100000 in
set_option maxHeartbeats 1000000 in
theorem play_skip (p : Option Addr) (h0 : 0 ≤ kb) (h1 : kb < 256) (hK : kb % 7 = 3) (R : Int → World → Prop) (hc : ∀ W, Below w.heap.size w W → Calls Try.prog 22 #[.pointer p, .int .i64 N] W fun e w' => ∃ E, e = .returned (.int .i64 E) ∧ R E w') :
    Calls Try.prog 23 #[.pointer p, .agg #[.int .u8 kb, .slice X mx cx, .int .i64 N, .int .u8 y]] w fun e w' => ∃ E, e = .returned (.tuple #[.slice none 0 0, .int .i64 E]) ∧ R E w' := by
  have C24 := Lib.hid (fun W => kind_any (X := X) (mx := mx) (cx := cx) (N := N) (y := y) kb h0 h1 _ hK W)
  have HC := Lib.hid hc
  have HB0 := Lib.hid (Blk.new w 53 #[.int .u8 kb, .slice X mx cx, .int .i64 N, .int .u8 y])
  have HB := Lib.hid ((Below.refl _ w).alloc (Nat.le_refl _) (.cells #[.int .u8 kb, .slice X mx cx, .int .i64 N, .int .u8 y] 53))
  clear hc hK h0 h1
  go_enter Try.func23, Try.ntmps23
  go_wp2_with (first
    | (go_at_call 24; (with_reducible refine (C24.out _).mono ?_); rintro e w1 ⟨rfl, b1⟩; obtain ⟨a0, a1, a2, a3⟩ := foura _ _ _ _ _ _ _ (HB0.out.below b1 HB0.out.lt); have HC1 := Lib.hid (HC.out w1 (HB.out.trans (b1.mono HB.out.size))); clear b1)
    | (go_at_call 22; (with_reducible refine HC1.out.mono ?_); rintro e w2 ⟨E2, rfl, r2⟩; have HR := Lib.hid r2; clear r2))
  exact bodyPost_ret (v := .tuple #[.slice none 0 0, .int .i64 E2]) (by simp [results, Try.results23, go_sem]) rfl ⟨E2, rfl, HR.out⟩
set_option maxRecDepth 100000 in
set_option maxHeartbeats 1000000 in
theorem play_until (p : Option Addr) (h0 : 0 ≤ kb) (h1 : kb < 256) (hK : kb % 7 = 4) (R : Option Addr → Nat → Nat → Int → World → Prop) (hc : ∀ W, Below w.heap.size w W → Calls Try.prog 12 #[.pointer p, .int .u8 y, .int .i64 N] W fun e w' => ∃ A k c E, e = .returned (.tuple #[.slice A k c, .int .i64 E]) ∧ R A k c E w') :
    Calls Try.prog 23 #[.pointer p, .agg #[.int .u8 kb, .slice X mx cx, .int .i64 N, .int .u8 y]] w fun e w' => ∃ A k c E, e = .returned (.tuple #[.slice A k c, .int .i64 E]) ∧ R A k c E w' := by
  have C24 := Lib.hid (fun W => kind_any (X := X) (mx := mx) (cx := cx) (N := N) (y := y) kb h0 h1 _ hK W)
  have HC := Lib.hid hc
  have HB0 := Lib.hid (Blk.new w 53 #[.int .u8 kb, .slice X mx cx, .int .i64 N, .int .u8 y])
  have HB := Lib.hid ((Below.refl _ w).alloc (Nat.le_refl _) (.cells #[.int .u8 kb, .slice X mx cx, .int .i64 N, .int .u8 y] 53))
  clear hc hK h0 h1
  go_enter Try.func23, Try.ntmps23
  go_wp2_with (first
    | (go_at_call 24; (with_reducible refine (C24.out _).mono ?_); rintro e w1 ⟨rfl, b1⟩; obtain ⟨a0, a1, a2, a3⟩ := foura _ _ _ _ _ _ _ (HB0.out.below b1 HB0.out.lt); have HC1 := Lib.hid (HC.out w1 (HB.out.trans (b1.mono HB.out.size))); clear b1)
    | (go_at_call 12; (with_reducible refine HC1.out.mono ?_); rintro e w2 ⟨A2, k2, c2, E2, rfl, r2⟩; have HR := Lib.hid r2; clear r2))
  exact bodyPost_ret (v := .tuple #[.slice A2 k2 c2, .int .i64 E2]) (by simp [results, Try.results23, go_sem]) rfl ⟨A2, k2, c2, E2, rfl, HR.out⟩
set_option maxRecDepth 100000 in
set_option maxHeartbeats 1000000 in
theorem play_close (p : Option Addr) (h0 : 0 ≤ kb) (h1 : kb < 256) (hK : kb % 7 = 6) (R : Int → World → Prop) (hc : ∀ W, Below w.heap.size w W → Calls Try.prog 28 #[.pointer p] W fun e w' => ∃ E, e = .returned (.int .i64 E) ∧ R E w') :
    Calls Try.prog 23 #[.pointer p, .agg #[.int .u8 kb, .slice X mx cx, .int .i64 N, .int .u8 y]] w fun e w' => ∃ E, e = .returned (.tuple #[.slice none 0 0, .int .i64 E]) ∧ R E w' := by
  have C24 := Lib.hid (fun W => kind_any (X := X) (mx := mx) (cx := cx) (N := N) (y := y) kb h0 h1 _ hK W)
  have HC := Lib.hid hc
  have HB0 := Lib.hid (Blk.new w 53 #[.int .u8 kb, .slice X mx cx, .int .i64 N, .int .u8 y])
  have HB := Lib.hid ((Below.refl _ w).alloc (Nat.le_refl _) (.cells #[.int .u8 kb, .slice X mx cx, .int .i64 N, .int .u8 y] 53))
  clear hc hK h0 h1
  go_enter Try.func23, Try.ntmps23
  go_wp2_with (first
    | (go_at_call 24; (with_reducible refine (C24.out _).mono ?_); rintro e w1 ⟨rfl, b1⟩; obtain ⟨a0, a1, a2, a3⟩ := foura _ _ _ _ _ _ _ (HB0.out.below b1 HB0.out.lt); have HC1 := Lib.hid (HC.out w1 (HB.out.trans (b1.mono HB.out.size))); clear b1)
    | (go_at_call 28; (with_reducible refine HC1.out.mono ?_); rintro e w2 ⟨E2, rfl, r2⟩; have HR := Lib.hid r2; clear r2))
  exact bodyPost_ret (v := .tuple #[.slice none 0 0, .int .i64 E2]) (by simp [results, Try.results23, go_sem]) rfl ⟨E2, rfl, HR.out⟩
set_option maxRecDepth 100000 in
set_option maxHeartbeats 1000000 in
theorem play_alone (p : Option Addr) (h0 : 0 ≤ kb) (h1 : kb < 256) (hK : kb % 7 = 5) :
    Calls Try.prog 23 #[.pointer p, .agg #[.int .u8 kb, .slice X mx cx, .int .i64 N, .int .u8 y]] w fun e w' => e = .returned (.tuple #[.slice none 0 0, .int .i64 0]) ∧ Below w.heap.size w w' := by
  have C24 := Lib.hid (fun W => kind_any (X := X) (mx := mx) (cx := cx) (N := N) (y := y) kb h0 h1 _ hK W)
  have HB := Lib.hid ((Below.refl _ w).alloc (Nat.le_refl _) (.cells #[.int .u8 kb, .slice X mx cx, .int .i64 N, .int .u8 y] 53))
  clear hK h0 h1
  go_enter Try.func23, Try.ntmps23
  go_wp2_with (go_at_call 24; (with_reducible refine (C24.out _).mono ?_); rintro e w1 ⟨rfl, b1⟩; have HB1 := Lib.hid (HB.out.trans (b1.mono HB.out.size)); clear b1)
  exact bodyPost_ret (v := .tuple #[.slice none 0 0, .int .i64 0]) (by simp [results, Try.results23, go_sem]) rfl ⟨rfl, HB1.out⟩
end
end Go.Proofs.Ythkpmbgclllnjaa

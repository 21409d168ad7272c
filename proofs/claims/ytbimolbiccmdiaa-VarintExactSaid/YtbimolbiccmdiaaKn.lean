/- The examples of the chapter: known returns true. -/
import Derived.Test.YtbimolbiccmdiaaBeg
import Derived.Test.YtbimolbiccmdiaaRefF
import Derived.Test.YtbimolbiccmdiaaUnf
import Derived.Test.YtbimolbiccmdiaaStr
namespace Go.Proofs.Ytbimolbiccmdiaa
open Go.RowKit

set_option maxHeartbeats 400000 in
theorem reads_yes (s : ByteArray) (loose : Bool) (v n : Int) (w : World) (hs : s.size ≤ 60000) (hr : readS s.data.toList loose = (v, n, 0)) :
    Calls Try.prog 24 #[.string s, .bool loose, .int .i64 v, .int .i64 n] w fun e w' => e = .returned (.bool true) ∧ Below w.heap.size w w' := by
  obtain ⟨cap, W1, hcv, hbs, hb, hcap, _⟩ := conv_sb (P := Try.prog) w 9 22 5 s Try.underlying9 Try.underlying22 Try.underlying5
  have c1 := read_any _ s.size cap W1.heap.size s.data.toList loose W1 (by simp) hs hcap hbs
  rw [hr] at c1
  simp only [tup3] at c1
  have C1 := Lib.hid c1
  have HB := Lib.hid hb
  clear c1 hb hbs hr hcap hs
  go_enter Try.func24, Try.ntmps24
  go_wp2_with (first | (go_at_call 14; (with_reducible refine C1.out.mono ?_); rintro e w' ⟨rfl, rfl⟩))
  go_ret
  exact ⟨by simp, HB.out⟩

set_option maxHeartbeats 400000 in
theorem refuses_yes (s : ByteArray) (v : Int) (w : World) (hs : s.size ≤ 60000) (hr : readS s.data.toList false = (0, 0, v)) :
    Calls Try.prog 25 #[.string s, .int .i64 v] w fun e w' => e = .returned (.bool true) ∧ Below w.heap.size w w' := by
  obtain ⟨cap, W1, hcv, hbs, hb, hcap, _⟩ := conv_sb (P := Try.prog) w 9 22 5 s Try.underlying9 Try.underlying22 Try.underlying5
  have c1 := read_any _ s.size cap W1.heap.size s.data.toList false W1 (by simp) hs hcap hbs
  rw [hr] at c1
  simp only [tup3] at c1
  have C1 := Lib.hid c1
  have HB := Lib.hid hb
  clear c1 hb hbs hr hcap hs
  go_enter Try.func25, Try.ntmps25
  go_wp2_with (first | (go_at_call 14; (with_reducible refine C1.out.mono ?_); rintro e w' ⟨rfl, rfl⟩))
  go_ret
  exact ⟨by simp, HB.out⟩

set_option maxHeartbeats 400000 in
theorem kbegins (s : ByteArray) (loose : Bool) (lo hi : Int) (b : Bool) (w : World) (hs : s.size ≤ 60000) (hr : beginsS s.data.toList loose lo hi = (b, 0)) :
    Calls Try.prog 26 #[.string s, .bool loose, .int .i64 lo, .int .i64 hi] w fun e w' => e = .returned (.bool b) ∧ Below w.heap.size w w' := by
  obtain ⟨cap, W1, hcv, hbs, hb, hcap, _⟩ := conv_sb (P := Try.prog) w 9 22 5 s Try.underlying9 Try.underlying22 Try.underlying5
  have c1 := fun W2 (h : Below W1.heap.size W1 W2) => begins_any _ s.size cap s.data.toList loose lo hi W2 (by simp) hs hcap ((hbs.below h).more h.size)
  simp only [hr, tupB] at c1
  have C1 := Lib.hid c1
  have HB := Lib.hid hb
  clear c1 hb hbs hr hcap hs
  cases b with
  | true =>
    go_enter Try.func26, Try.ntmps26
    go_wp2_with (first | (go_at_call 18; (with_reducible refine (C1.out _ (Below.refl _ _)).mono ?_); rintro e w' ⟨rfl, hb2⟩; have HB2 := Lib.hid hb2; clear hb2))
    go_ret
    exact ⟨rfl, HB.out.trans (HB2.out.mono HB.out.size)⟩
  | false =>
    go_enter Try.func26, Try.ntmps26
    go_wp2_with (first | (go_at_call 18; (with_reducible refine (C1.out _ (Below.refl _ _)).mono ?_); rintro e w' ⟨rfl, hb2⟩; have HB2 := Lib.hid hb2; clear hb2))
    go_ret
    exact ⟨rfl, HB.out.trans (HB2.out.mono HB.out.size)⟩

theorem app_at (w w1 : World) (val : Value) (n : Nat) (l : List UInt8) (h : w1.ownsRow w.heap.size 5 1 val n (l.map u8)) (h0 : 0 < n) (hl : l.length = n) : ∃ g cap, val = .slice (some ⟨g, 0, none⟩) n cap ∧ Holds w1 (some ⟨g, 0, none⟩) n (l.map u8) := by
  obtain ⟨g, cap, rfl, _, _, _, _, hc⟩ := own_holds h h0
  exact ⟨g, cap, rfl, by simp [hl], fun e => (by cases e), fun b hb j u hu => by cases hb; exact hc j u hu⟩

theorem app_const (v n : Nat) (vi : Int) (hvi : vi = (v : Int)) (l : List UInt8) (hv : v < 34359738368) (hk : k0 v + 1 = n) (hl : formB v (k0 v) = l) (W : World) :
    Calls Try.prog 11 #[.slice none 0 0, .int .i64 vi] W fun e w' => ∃ g cap, e = .returned (.tuple #[.slice (some ⟨g, 0, none⟩) n cap, .int .i64 0]) ∧ Holds w' (some ⟨g, 0, none⟩) n (l.map u8) ∧ Below W.heap.size W w' := by
  subst hvi
  refine (append_yes none 0 0 v [] W ⟨rfl, fun _ => ⟨rfl, rfl⟩, fun b hb => (by cases hb)⟩ (by omega) (by omega) hv).mono ?_
  rintro e w' ⟨val, rfl, hown, hb⟩
  rw [Nat.zero_add, List.nil_append, hk, hl] at hown
  obtain ⟨g, cap, rfl, hh⟩ := app_at W w' val n l hown (by omega) (by rw [← hl, formB_length, hk])
  exact ⟨g, cap, rfl, hh, hb⟩

set_option maxRecDepth 100000 in
set_option maxHeartbeats 1000000 in
theorem known_any (w : World) : Calls Try.prog 10 #[] w fun e w' => e = .returned (.bool true) ∧ Below w.heap.size w w' := by
  have c1 := fun W => app_const 300 2 300 rfl [172, 2] (by omega) (by decide +kernel) (by decide +kernel) W
  have c2 := fun W => app_const 0 1 0 rfl [0] (by omega) (by decide +kernel) (by decide +kernel) W
  have c3 := fun W => append_no none 0 0 34359738368 W (by omega)
  have c4 : ∀ W, Calls Try.prog 12 #[.int .i64 34359738367] W fun e w' => e = .returned (.tuple #[.int .i64 5, .int .i64 0]) ∧ Below W.heap.size W w' := fun W => by
    have h := len_yes 34359738367 W (by omega)
    rw [show k0 34359738367 = 4 by decide +kernel] at h
    exact h
  have C1 := Lib.hid c1
  have C2 := Lib.hid c2
  have C3 := Lib.hid c3
  have C4 := Lib.hid c4
  clear c1 c2 c3 c4
  go_enter Try.func10, Try.ntmps10
  go_wp2_with fail
  (with_reducible refine (C1.out _).mono ?_); rintro e w1 ⟨g1, cap1, rfl, h1, b1⟩
  have H1 := Lib.hid h1
  have B1 := Lib.hid b1
  clear h1 b1
  go_wp2_with fail
  (with_reducible refine (C2.out _).mono ?_); rintro e w2 ⟨g2, cap2, rfl, h2, b2⟩
  have H2 := Lib.hid h2
  have B2 := Lib.hid (B1.out.trans (b2.mono B1.out.size))
  have H12 := Lib.hid (H1.out.keep b2)
  clear h2 b2
  go_wp2_with fail
  (with_reducible refine (C3.out _).mono ?_); rintro e w3 ⟨rfl, b3⟩
  have B3 := Lib.hid (B2.out.trans (b3.mono B2.out.size))
  have H13 := Lib.hid (H12.out.keep b3)
  have H23 := Lib.hid (H2.out.keep b3)
  clear b3
  go_wp2_with fail
  (with_reducible refine (C4.out _).mono ?_); rintro e w4 ⟨rfl, b4⟩
  have B4 := Lib.hid (B3.out.trans (b4.mono B3.out.size))
  have s1 := conv_bs (P := Try.prog) w4 22 9 5 Try.underlying22 Try.underlying5 Try.underlying9 (A := some ⟨g1, 0, none⟩) (n := 2) (c := cap1) (l := [172, 2]) rfl (H13.out.keep b4)
  have s2 := conv_bs (P := Try.prog) w4 22 9 5 Try.underlying22 Try.underlying5 Try.underlying9 (A := some ⟨g2, 0, none⟩) (n := 1) (c := cap2) (l := [0]) rfl (H23.out.keep b4)
  clear b4
  go_wp2_with fail
  clear s1 s2
  have k1 := fun W => kbegins ⟨#[172]⟩ false 300 300 true W (by decide) (by decide +kernel)
  have k2 := fun W => kbegins ⟨#[172]⟩ false 44 44 false W (by decide) (by decide +kernel)
  have k3 := fun W => kbegins ⟨#[172]⟩ true 44 44 true W (by decide) (by decide +kernel)
  have k4 := fun W => kbegins ⟨#[173]⟩ false 300 427 true W (by decide) (by decide +kernel)
  have K1 := Lib.hid k1
  have K2 := Lib.hid k2
  have K3 := Lib.hid k3
  have K4 := Lib.hid k4
  have l1 : ∀ W, Calls Try.prog 20 #[.int .i64 (-1)] W fun e w' => e = .returned (.tuple #[.int .i64 1, .int .i64 0]) ∧ W = w' := fun W => fold_any (-1) W
  have l2 : ∀ W, Calls Try.prog 20 #[.int .i64 5] W fun e w' => e = .returned (.tuple #[.int .i64 10, .int .i64 0]) ∧ W = w' := fun W => fold_any 5 W
  have l3 : ∀ W, Calls Try.prog 20 #[.int .i64 17179869184] W fun e w' => e = .returned (.tuple #[.int .i64 0, .int .i64 3]) ∧ W = w' := fun W => fold_any 17179869184 W
  have l4 : ∀ W, Calls Try.prog 22 #[.int .i64 4] W fun e w' => e = .returned (.tuple #[.int .i64 2, .int .i64 0]) ∧ W = w' := fun W => unfold_any 4 W
  have L1 := Lib.hid l1
  have L2 := Lib.hid l2
  have L3 := Lib.hid l3
  have L4 := Lib.hid l4
  clear k1 k2 k3 k4 l1 l2 l3 l4
  go_wp2_with (first
    | (go_at_call 24; go_must ((with_reducible refine (reads_yes _ _ _ _ _ ?_ ?_).mono ?_); (decide); (decide +kernel)); rintro e w' ⟨rfl, b5⟩; replace B4 := Lib.hid (B4.out.trans (b5.mono B4.out.size)); clear b5)
    | (go_at_call 25; ((with_reducible refine (refuses_yes _ _ _ ?_ ?_).mono ?_); (decide); (decide +kernel)); rintro e w' ⟨rfl, b5⟩; replace B4 := Lib.hid (B4.out.trans (b5.mono B4.out.size)); clear b5)
    | (go_at_call 26; (first | (with_reducible refine (K1.out _).mono ?_) | (with_reducible refine (K2.out _).mono ?_) | (with_reducible refine (K3.out _).mono ?_) | (with_reducible refine (K4.out _).mono ?_)); rintro e w' ⟨rfl, b5⟩; replace B4 := Lib.hid (B4.out.trans (b5.mono B4.out.size)); clear b5)
    | (go_at_call 20; (first | (with_reducible refine (L1.out _).mono ?_) | (with_reducible refine (L2.out _).mono ?_) | (with_reducible refine (L3.out _).mono ?_)); rintro e w' ⟨rfl, rfl⟩)
    | (go_at_call 22; (with_reducible refine (L4.out _).mono ?_); rintro e w' ⟨rfl, rfl⟩))
  go_ret
  exact ⟨by simp, B4.out⟩
end Go.Proofs.Ytbimolbiccmdiaa

/- Contracts of check.Bytes on bad arguments; the chapter's examples: known returns true. -/
import Derived.Test.YtcjmeiklfkiibaaByt
import Derived.Test.YtcjmeiklfkiibaaStr
namespace Go.Proofs.Ytcjmeiklfkiibaa
open Go.RowKit

set_option maxRecDepth 100000 in
theorem byt_badk (k v : Int) (w : World) (h : k < 1 ∨ 3 < k) : Calls Try.prog 16 #[.int .i64 k, .int .i64 v] w fun e w' => e = .returned (.tuple #[.slice none 0 0, .int .i64 2]) ∧ Below w.heap.size w w' := by
  have c1 := of_bad k w h
  simp only [meth0] at c1
  have C1 := Lib.hid c1
  clear c1 h
  go_enter Try.func16, Try.ntmps16
  go_wp2_with (go_at_call 26; (with_reducible refine C1.out.mono ?_); rintro e w1 ⟨rfl, b1⟩; have B1 := Lib.hid b1; clear b1)
  go_ret2
  exact ⟨rfl, B1.out.alloc B1.out.size _⟩

set_option maxRecDepth 100000 in
theorem byt_out_1 (v : Int) (w : World) (h : v < 0 ∨ 65536 ≤ v) : Calls Try.prog 16 #[.int .i64 1, .int .i64 v] w fun e w' => e = .returned (.tuple #[.slice none 0 0, .int .i64 2]) ∧ Below w.heap.size w w' := by
  have c1 := of_1 w
  simp only [meth1] at c1
  have C1 := Lib.hid c1
  clear c1
  by_cases h0 : v < 0
  · clear h
    go_enter Try.func16, Try.ntmps16
    go_wp2_with (go_at_call 26; (with_reducible refine C1.out.mono ?_); rintro e w1 ⟨rfl, b1⟩; have B1 := Lib.hid b1; clear b1)
    go_ret2
    exact ⟨rfl, B1.out.alloc B1.out.size _⟩
  · have h1 : 65536 ≤ v := by omega
    have h2 : 0 ≤ v := by omega
    clear h h0
    go_enter Try.func16, Try.ntmps16
    go_wp2_with (go_at_call 26; (with_reducible refine C1.out.mono ?_); rintro e w1 ⟨rfl, b1⟩; have B1 := Lib.hid b1; clear b1)
    go_ret2
    exact ⟨rfl, B1.out.alloc B1.out.size _⟩

set_option maxRecDepth 100000 in
theorem byt_out_2 (v : Int) (w : World) (h : v < 0 ∨ 65536 ≤ v) : Calls Try.prog 16 #[.int .i64 2, .int .i64 v] w fun e w' => e = .returned (.tuple #[.slice none 0 0, .int .i64 2]) ∧ Below w.heap.size w w' := by
  have c1 := of_2 w
  simp only [meth2] at c1
  have C1 := Lib.hid c1
  clear c1
  by_cases h0 : v < 0
  · clear h
    go_enter Try.func16, Try.ntmps16
    go_wp2_with (go_at_call 26; (with_reducible refine C1.out.mono ?_); rintro e w1 ⟨rfl, b1⟩; have B1 := Lib.hid b1; clear b1)
    go_ret2
    exact ⟨rfl, B1.out.alloc B1.out.size _⟩
  · have h1 : 65536 ≤ v := by omega
    have h2 : 0 ≤ v := by omega
    clear h h0
    go_enter Try.func16, Try.ntmps16
    go_wp2_with (go_at_call 26; (with_reducible refine C1.out.mono ?_); rintro e w1 ⟨rfl, b1⟩; have B1 := Lib.hid b1; clear b1)
    go_ret2
    exact ⟨rfl, B1.out.alloc B1.out.size _⟩

set_option maxRecDepth 100000 in
theorem byt_out_3 (v : Int) (w : World) (h : v < 0 ∨ 4294967296 ≤ v) : Calls Try.prog 16 #[.int .i64 3, .int .i64 v] w fun e w' => e = .returned (.tuple #[.slice none 0 0, .int .i64 2]) ∧ Below w.heap.size w w' := by
  have c1 := of_3 w
  simp only [meth3] at c1
  have C1 := Lib.hid c1
  clear c1
  by_cases h0 : v < 0
  · clear h
    go_enter Try.func16, Try.ntmps16
    go_wp2_with (go_at_call 26; (with_reducible refine C1.out.mono ?_); rintro e w1 ⟨rfl, b1⟩; have B1 := Lib.hid b1; clear b1)
    go_ret2
    exact ⟨rfl, B1.out.alloc B1.out.size _⟩
  · have h1 : 4294967296 ≤ v := by omega
    have h2 : 0 ≤ v := by omega
    clear h h0
    go_enter Try.func16, Try.ntmps16
    go_wp2_with (go_at_call 26; (with_reducible refine C1.out.mono ?_); rintro e w1 ⟨rfl, b1⟩; have B1 := Lib.hid b1; clear b1)
    go_ret2
    exact ⟨rfl, B1.out.alloc B1.out.size _⟩

theorem ofx_ok (k : Int) (hk : 1 ≤ k ∧ k ≤ 3) (A : Option Addr) (n c : Nat) (l : List UInt8) (w : World) (hl : l.length = n) (hn : n ≤ 60000) (hb : BS w w.heap.size A l) :
    Calls Try.prog 13 #[.int .i64 k, .slice A n c] w fun e w' => e = .returned (.tuple #[.int .i64 (chkS k l), .int .i64 0]) ∧ Below w.heap.size w w' := by
  have h : k = 1 ∨ k = 2 ∨ k = 3 := by omega
  rcases h with rfl | rfl | rfl
  · exact ofx_1 A n c l w hl hn hb
  · exact ofx_2 A n c l w hl hn hb
  · exact ofx_3 A n c l w hl hn hb

set_option maxHeartbeats 400000 in
theorem sums_yes (k : Int) (s : ByteArray) (v : Int) (w : World) (hk : 1 ≤ k ∧ k ≤ 3) (hs : s.size ≤ 60000) (hr : chkS k s.data.toList = v) :
    Calls Try.prog 25 #[.int .i64 k, .string s, .int .i64 v] w fun e w' => e = .returned (.bool true) ∧ Below w.heap.size w w' := by
  obtain ⟨cap, W1, hcv, hbs, hb, hcap, _⟩ := conv_sb (P := Try.prog) w 9 22 5 s Try.underlying9 Try.underlying22 Try.underlying5
  have c1 := ofx_ok k hk _ s.size cap s.data.toList W1 (by simp) hs hbs
  rw [hr] at c1
  have C1 := Lib.hid c1
  have HB := Lib.hid hb
  clear c1 hb hbs hr hcap hs hk
  go_enter Try.func25, Try.ntmps25
  go_wp2_with (go_at_call 13; (with_reducible refine C1.out.mono ?_); rintro e w' ⟨rfl, hb2⟩; have HB2 := Lib.hid hb2; clear hb2)
  go_ret
  exact ⟨by simp, HB.out.trans (HB2.out.mono HB.out.size)⟩

def nine : ByteArray := ⟨#[49, 50, 51, 52, 53, 54, 55, 56, 57]⟩
theorem kn1 : chkS 1 [49, 50, 51, 52, 53, 54, 55, 56, 57] = 63018 := by decide +kernel
theorem kn2 : chkS 2 [49, 50, 51, 52, 53, 54, 55, 56, 57] = 10673 := by decide +kernel
theorem kn3 : chkS 3 [49, 50, 51, 52, 53, 54, 55, 56, 57] = 152961502 := by decide +kernel
theorem kn4 : chkS 1 [] = 65535 := by decide +kernel
theorem kn5 : chkS 2 [] = 65535 := by decide +kernel
theorem kn6 : chkS 3 [] = 1 := by decide +kernel

set_option maxRecDepth 100000 in
set_option maxHeartbeats 4000000 in
theorem known_any (w : World) : Calls Try.prog 11 #[] w fun e w' => e = .returned (.bool true) ∧ Below w.heap.size w w' := by
  have c1 := fun W => sums_yes 1 nine 63018 W (by omega) (by decide) kn1
  have c2 := fun W => sums_yes 2 nine 10673 W (by omega) (by decide) kn2
  have c3 := fun W => sums_yes 3 nine 152961502 W (by omega) (by decide) kn3
  have c4 := fun W => sums_yes 1 ⟨#[]⟩ 65535 W (by omega) (by decide) kn4
  have c5 := fun W => sums_yes 2 ⟨#[]⟩ 65535 W (by omega) (by decide) kn5
  have c6 := fun W => sums_yes 3 ⟨#[]⟩ 1 W (by omega) (by decide) kn6
  have c7 := fun W => bits_3 W
  have c8 := fun W => bits_bad 4 W (by omega)
  have c9 := fun W => byt_2 258 W (by omega) (by omega)
  have c10 := fun W => byt_out_2 65536 W (by omega)
  simp only [nine] at c1 c2 c3
  have C1 := Lib.hid c1
  have C2 := Lib.hid c2
  have C3 := Lib.hid c3
  have C4 := Lib.hid c4
  have C5 := Lib.hid c5
  have C6 := Lib.hid c6
  have C7 := Lib.hid c7
  have C8 := Lib.hid c8
  have C9 := Lib.hid c9
  have C10 := Lib.hid c10
  clear c1 c2 c3 c4 c5 c6 c7 c8 c9 c10
  go_enter Try.func11, Try.ntmps11
  go_wp2_with fail
  (with_reducible refine (C1.out _).mono ?_); rintro e w1 ⟨rfl, b1⟩; have B1 := Lib.hid b1; clear b1
  go_wp2_with fail
  (with_reducible refine (C2.out _).mono ?_); rintro e w2 ⟨rfl, b2⟩; have B2 := Lib.hid (B1.out.trans (b2.mono B1.out.size)); clear b2
  go_wp2_with fail
  (with_reducible refine (C3.out _).mono ?_); rintro e w3 ⟨rfl, b3⟩; have B3 := Lib.hid (B2.out.trans (b3.mono B2.out.size)); clear b3
  go_wp2_with fail
  (with_reducible refine (C4.out _).mono ?_); rintro e w4 ⟨rfl, b4⟩; have B4 := Lib.hid (B3.out.trans (b4.mono B3.out.size)); clear b4
  go_wp2_with fail
  (with_reducible refine (C5.out _).mono ?_); rintro e w5 ⟨rfl, b5⟩; have B5 := Lib.hid (B4.out.trans (b5.mono B4.out.size)); clear b5
  go_wp2_with fail
  (with_reducible refine (C6.out _).mono ?_); rintro e w6 ⟨rfl, b6⟩; have B6 := Lib.hid (B5.out.trans (b6.mono B5.out.size)); clear b6
  go_wp2_with fail
  (with_reducible refine (C7.out _).mono ?_); rintro e w7 ⟨rfl, b7⟩; have B7 := Lib.hid (B6.out.trans (b7.mono B6.out.size)); clear b7
  go_wp2_with fail
  (with_reducible refine (C8.out _).mono ?_); rintro e w8 ⟨rfl, b8⟩; have B8 := Lib.hid (B7.out.trans (b8.mono B7.out.size)); clear b8
  go_wp2_with fail
  (with_reducible refine (C9.out _).mono ?_); rintro e w9 ⟨val, rfl, ho, b9⟩; have B9 := Lib.hid (B8.out.trans (b9.mono B8.out.size)); clear b9
  have ho : w9.ownsRow w8.heap.size 5 1 val 2 ((bytS 2 258).map u8) := ho
  obtain ⟨g, cap, rfl, hg1, hg2, hg3, hg4, hg5⟩ := own_holds ho (by decide)
  have hby : bytS 2 258 = [1, 2] := by decide +kernel
  rw [hby] at ho
  have HBS := Lib.hid (holds_own ho)
  clear ho hg1 hg2 hg3 hg4 hg5 hby
  go_wp2_with fail
  (with_reducible refine (C10.out _).mono ?_); rintro e w10 ⟨rfl, b10⟩; have B10 := Lib.hid (B9.out.trans (b10.mono B9.out.size)); have s1 := conv_bs (P := Try.prog) w10 22 9 5 Try.underlying22 Try.underlying5 Try.underlying9 (A := some ⟨g, 0, none⟩) (n := 2) (c := cap) (l := [1, 2]) rfl (HBS.out.keep b10); clear b10
  go_wp2_with fail
  go_ret
  exact ⟨rfl, B10.out⟩
end Go.Proofs.Ytcjmeiklfkiibaa

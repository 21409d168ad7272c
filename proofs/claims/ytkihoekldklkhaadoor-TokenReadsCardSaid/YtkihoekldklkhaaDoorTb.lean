/- Functions on bytes: of the program and of the reference. -/
import Derived.Test.YtkihoekldklkhaaDoorTa
import Derived.Lib.Bytealg
import Derived.Deep.QuietTactic
import Derived.BigQuiet
import Derived.Deep.CutRange
namespace Go.Proofs.YtkihoekldklkhaaDoor
open Go.RowKit
set_option linter.unusedVariables false
set_option linter.unusedSimpArgs false

set_option maxRecDepth 100000 in
set_option maxHeartbeats 1000000 in
theorem letter_any (x : Int) (w : World) (h0 : 0 ≤ x) (h1 : x < 256) : Calls Tryd.prog 67 #[.int .u8 x] w fun e w' => e = .returned (.bool (ltrI x)) ∧ w' = w := by
  rcases (by omega : (0 ≤ x ∧ x ≤ 64) ∨ (65 ≤ x ∧ x ≤ 90) ∨ (91 ≤ x ∧ x ≤ 96) ∨ (97 ≤ x ∧ x ≤ 122) ∨ (123 ≤ x ∧ x ≤ 255)) with hq | hq | hq | hq | hq
  ·
    have q0 : decide (65 ≤ x) = false := by simp <;> omega
    have q1 : decide (x ≤ 90) = true := by simp <;> omega
    have q2 : decide (97 ≤ x) = false := by simp <;> omega
    have q3 : decide (x ≤ 122) = true := by simp <;> omega
    clear hq h0 h1
    go_enter Tryd.func67, Tryd.ntmps67
    go_wp2_with fail
    go_ret
    exact ⟨by simp [ltrI, q0, q1, q2, q3], rfl⟩
  ·
    have q0 : decide (65 ≤ x) = true := by simp <;> omega
    have q1 : decide (x ≤ 90) = true := by simp <;> omega
    have q2 : decide (97 ≤ x) = false := by simp <;> omega
    have q3 : decide (x ≤ 122) = true := by simp <;> omega
    clear hq h0 h1
    go_enter Tryd.func67, Tryd.ntmps67
    go_wp2_with fail
    go_ret
    exact ⟨by simp [ltrI, q0, q1, q2, q3], rfl⟩
  ·
    have q0 : decide (65 ≤ x) = true := by simp <;> omega
    have q1 : decide (x ≤ 90) = false := by simp <;> omega
    have q2 : decide (97 ≤ x) = false := by simp <;> omega
    have q3 : decide (x ≤ 122) = true := by simp <;> omega
    clear hq h0 h1
    go_enter Tryd.func67, Tryd.ntmps67
    go_wp2_with fail
    go_ret
    exact ⟨by simp [ltrI, q0, q1, q2, q3], rfl⟩
  ·
    have q0 : decide (65 ≤ x) = true := by simp <;> omega
    have q1 : decide (x ≤ 90) = false := by simp <;> omega
    have q2 : decide (97 ≤ x) = true := by simp <;> omega
    have q3 : decide (x ≤ 122) = true := by simp <;> omega
    clear hq h0 h1
    go_enter Tryd.func67, Tryd.ntmps67
    go_wp2_with fail
    go_ret
    exact ⟨by simp [ltrI, q0, q1, q2, q3], rfl⟩
  ·
    have q0 : decide (65 ≤ x) = true := by simp <;> omega
    have q1 : decide (x ≤ 90) = false := by simp <;> omega
    have q2 : decide (97 ≤ x) = true := by simp <;> omega
    have q3 : decide (x ≤ 122) = false := by simp <;> omega
    clear hq h0 h1
    go_enter Tryd.func67, Tryd.ntmps67
    go_wp2_with fail
    go_ret
    exact ⟨by simp [ltrI, q0, q1, q2, q3], rfl⟩
set_option maxRecDepth 100000 in
set_option maxHeartbeats 1000000 in
theorem rletter_any (x : Int) (w : World) (h0 : 0 ≤ x) (h1 : x < 256) : Calls Tryd.prog 36 #[.int .u8 x] w fun e w' => e = .returned (.bool (ltrI x)) ∧ w' = w := by
  rcases (by omega : (0 ≤ x ∧ x ≤ 64) ∨ (65 ≤ x ∧ x ≤ 90) ∨ (91 ≤ x ∧ x ≤ 96) ∨ (97 ≤ x ∧ x ≤ 122) ∨ (123 ≤ x ∧ x ≤ 255)) with hq | hq | hq | hq | hq
  ·
    have q0 : decide (65 ≤ x) = false := by simp <;> omega
    have q1 : decide (x ≤ 90) = true := by simp <;> omega
    have q2 : decide (97 ≤ x) = false := by simp <;> omega
    have q3 : decide (x ≤ 122) = true := by simp <;> omega
    clear hq h0 h1
    go_enter Tryd.func36, Tryd.ntmps36
    go_wp2_with fail
    go_ret
    exact ⟨by simp [ltrI, q0, q1, q2, q3], rfl⟩
  ·
    have q0 : decide (65 ≤ x) = true := by simp <;> omega
    have q1 : decide (x ≤ 90) = true := by simp <;> omega
    have q2 : decide (97 ≤ x) = false := by simp <;> omega
    have q3 : decide (x ≤ 122) = true := by simp <;> omega
    clear hq h0 h1
    go_enter Tryd.func36, Tryd.ntmps36
    go_wp2_with fail
    go_ret
    exact ⟨by simp [ltrI, q0, q1, q2, q3], rfl⟩
  ·
    have q0 : decide (65 ≤ x) = true := by simp <;> omega
    have q1 : decide (x ≤ 90) = false := by simp <;> omega
    have q2 : decide (97 ≤ x) = false := by simp <;> omega
    have q3 : decide (x ≤ 122) = true := by simp <;> omega
    clear hq h0 h1
    go_enter Tryd.func36, Tryd.ntmps36
    go_wp2_with fail
    go_ret
    exact ⟨by simp [ltrI, q0, q1, q2, q3], rfl⟩
  ·
    have q0 : decide (65 ≤ x) = true := by simp <;> omega
    have q1 : decide (x ≤ 90) = false := by simp <;> omega
    have q2 : decide (97 ≤ x) = true := by simp <;> omega
    have q3 : decide (x ≤ 122) = true := by simp <;> omega
    clear hq h0 h1
    go_enter Tryd.func36, Tryd.ntmps36
    go_wp2_with fail
    go_ret
    exact ⟨by simp [ltrI, q0, q1, q2, q3], rfl⟩
  ·
    have q0 : decide (65 ≤ x) = true := by simp <;> omega
    have q1 : decide (x ≤ 90) = false := by simp <;> omega
    have q2 : decide (97 ≤ x) = true := by simp <;> omega
    have q3 : decide (x ≤ 122) = false := by simp <;> omega
    clear hq h0 h1
    go_enter Tryd.func36, Tryd.ntmps36
    go_wp2_with fail
    go_ret
    exact ⟨by simp [ltrI, q0, q1, q2, q3], rfl⟩
set_option maxRecDepth 100000 in
set_option maxHeartbeats 1000000 in
theorem digit_any (x : Int) (w : World) (h0 : 0 ≤ x) (h1 : x < 256) : Calls Tryd.prog 70 #[.int .u8 x] w fun e w' => e = .returned (.bool (digI x)) ∧ w' = w := by
  rcases (by omega : (0 ≤ x ∧ x ≤ 47) ∨ (48 ≤ x ∧ x ≤ 57) ∨ (58 ≤ x ∧ x ≤ 255)) with hq | hq | hq
  ·
    have q0 : decide (48 ≤ x) = false := by simp <;> omega
    have q1 : decide (x ≤ 57) = true := by simp <;> omega
    clear hq h0 h1
    go_enter Tryd.func70, Tryd.ntmps70
    go_wp2_with fail
    go_ret
    exact ⟨by simp [digI, q0, q1], rfl⟩
  ·
    have q0 : decide (48 ≤ x) = true := by simp <;> omega
    have q1 : decide (x ≤ 57) = true := by simp <;> omega
    clear hq h0 h1
    go_enter Tryd.func70, Tryd.ntmps70
    go_wp2_with fail
    go_ret
    exact ⟨by simp [digI, q0, q1], rfl⟩
  ·
    have q0 : decide (48 ≤ x) = true := by simp <;> omega
    have q1 : decide (x ≤ 57) = false := by simp <;> omega
    clear hq h0 h1
    go_enter Tryd.func70, Tryd.ntmps70
    go_wp2_with fail
    go_ret
    exact ⟨by simp [digI, q0, q1], rfl⟩
set_option maxRecDepth 100000 in
set_option maxHeartbeats 1000000 in
theorem rdigit_any (x : Int) (w : World) (h0 : 0 ≤ x) (h1 : x < 256) : Calls Tryd.prog 38 #[.int .u8 x] w fun e w' => e = .returned (.bool (digI x)) ∧ w' = w := by
  rcases (by omega : (0 ≤ x ∧ x ≤ 47) ∨ (48 ≤ x ∧ x ≤ 57) ∨ (58 ≤ x ∧ x ≤ 255)) with hq | hq | hq
  ·
    have q0 : decide (48 ≤ x) = false := by simp <;> omega
    have q1 : decide (x ≤ 57) = true := by simp <;> omega
    clear hq h0 h1
    go_enter Tryd.func38, Tryd.ntmps38
    go_wp2_with fail
    go_ret
    exact ⟨by simp [digI, q0, q1], rfl⟩
  ·
    have q0 : decide (48 ≤ x) = true := by simp <;> omega
    have q1 : decide (x ≤ 57) = true := by simp <;> omega
    clear hq h0 h1
    go_enter Tryd.func38, Tryd.ntmps38
    go_wp2_with fail
    go_ret
    exact ⟨by simp [digI, q0, q1], rfl⟩
  ·
    have q0 : decide (48 ≤ x) = true := by simp <;> omega
    have q1 : decide (x ≤ 57) = false := by simp <;> omega
    clear hq h0 h1
    go_enter Tryd.func38, Tryd.ntmps38
    go_wp2_with fail
    go_ret
    exact ⟨by simp [digI, q0, q1], rfl⟩
set_option maxRecDepth 100000 in
set_option maxHeartbeats 1000000 in
theorem wordly_any (x : Int) (w : World) (h0 : 0 ≤ x) (h1 : x < 256) : Calls Tryd.prog 69 #[.int .u8 x] w fun e w' => e = .returned (.bool (worI x)) ∧ w' = w := by
  unfold worI
  have C1 := Lib.hid (letter_any x w h0 h1)
  have C2 := Lib.hid (digit_any x w h0 h1)
  clear h0 h1
  cases hl : ltrI x with
  | true =>
    rw [hl] at C1
    go_enter Tryd.func69, Tryd.ntmps69
    go_wp2_with (go_at_call 67; (with_reducible refine C1.out.mono ?_); rintro e w1 ⟨rfl, rfl⟩)
    go_ret
    exact ⟨by first | rfl | simp, rfl⟩
  | false =>
    rw [hl] at C1
    cases hd : digI x with
    | true =>
      rw [hd] at C2
      go_enter Tryd.func69, Tryd.ntmps69
      go_wp2_with (first | (go_at_call 67; (with_reducible refine C1.out.mono ?_); rintro e w1 ⟨rfl, rfl⟩) | (go_at_call 70; (with_reducible refine C2.out.mono ?_); rintro e w1 ⟨rfl, rfl⟩))
      go_ret
      exact ⟨by first | rfl | simp, rfl⟩
    | false =>
      rw [hd] at C2
      cases hu : (x == 95) <;>
      · go_enter Tryd.func69, Tryd.ntmps69
        go_wp2_with (first | (go_at_call 67; (with_reducible refine C1.out.mono ?_); rintro e w1 ⟨rfl, rfl⟩) | (go_at_call 70; (with_reducible refine C2.out.mono ?_); rintro e w1 ⟨rfl, rfl⟩))
        go_ret
        exact ⟨by first | rfl | simp [hu], rfl⟩
set_option maxRecDepth 100000 in
set_option maxHeartbeats 1000000 in
theorem rwordly_any (x : Int) (w : World) (h0 : 0 ≤ x) (h1 : x < 256) : Calls Tryd.prog 50 #[.int .u8 x] w fun e w' => e = .returned (.bool (worI x)) ∧ w' = w := by
  unfold worI
  have C1 := Lib.hid (rletter_any x w h0 h1)
  have C2 := Lib.hid (rdigit_any x w h0 h1)
  clear h0 h1
  cases hl : ltrI x with
  | true =>
    rw [hl] at C1
    go_enter Tryd.func50, Tryd.ntmps50
    go_wp2_with (go_at_call 36; (with_reducible refine C1.out.mono ?_); rintro e w1 ⟨rfl, rfl⟩)
    go_ret
    exact ⟨by first | rfl | simp, rfl⟩
  | false =>
    rw [hl] at C1
    cases hd : digI x with
    | true =>
      rw [hd] at C2
      go_enter Tryd.func50, Tryd.ntmps50
      go_wp2_with (first | (go_at_call 36; (with_reducible refine C1.out.mono ?_); rintro e w1 ⟨rfl, rfl⟩) | (go_at_call 38; (with_reducible refine C2.out.mono ?_); rintro e w1 ⟨rfl, rfl⟩))
      go_ret
      exact ⟨by first | rfl | simp, rfl⟩
    | false =>
      rw [hd] at C2
      cases hu : (x == 95) <;>
      · go_enter Tryd.func50, Tryd.ntmps50
        go_wp2_with (first | (go_at_call 36; (with_reducible refine C1.out.mono ?_); rintro e w1 ⟨rfl, rfl⟩) | (go_at_call 38; (with_reducible refine C2.out.mono ?_); rintro e w1 ⟨rfl, rfl⟩))
        go_ret
        exact ⟨by first | rfl | simp [hu], rfl⟩
/-- Where a byte stands first in a text of constants. -/
def ixB (l : List UInt8) (x : Int) : Int := Lib.indexByte l x.toNat.toUInt8
set_option maxRecDepth 100000 in
set_option maxHeartbeats 1000000 in
theorem ix94 (l : List UInt8) (x : Int) (w : World) : Calls Tryd.prog 94 #[.string ⟨l.toArray⟩, .int .u8 x] w fun e w' => e = .returned (.int .i64 (ixB l x)) ∧ w' = w := by
  have HE : ∀ (s : ByteArray) (W : World), (callFunc 99 #[.string s, .int .u8 x]).run Tryd.prog W = .ok (.value (.int .i64 (ixB s.data.toList x))) W := fun s W => by
    rw [run_callFunc_extern Tryd.func99 (by kernel_rfl) (by kernel_rfl) (by kernel_rfl) (e := Extern.BytealgIndexByte.indexByte) (by kernel_rfl), Lib.run_indexByteString]
    rfl
  have hs : (⟨l.toArray⟩ : ByteArray).data.toList = l := rfl
  generalize (⟨l.toArray⟩ : ByteArray) = s at *
  subst hs
  go_enter Tryd.func94, Tryd.ntmps94
  go_wp2
  go_ret
  exact ⟨rfl, rfl⟩
set_option maxRecDepth 100000 in
set_option maxHeartbeats 1000000 in
theorem ix79 (l : List UInt8) (x : Int) (w : World) : Calls Tryd.prog 79 #[.string ⟨l.toArray⟩, .int .u8 x] w fun e w' => e = .returned (.int .i64 (ixB l x)) ∧ w' = w := by
  have C1 := Lib.hid (ix94 l x w)
  generalize ixB l x = y at *
  generalize (⟨l.toArray⟩ : ByteArray) = s at *
  go_enter Tryd.func79, Tryd.ntmps79
  go_wp2_with (go_at_call 94; (with_reducible refine C1.out.mono ?_); rintro e w1 ⟨rfl, rfl⟩)
  go_ret
  exact ⟨rfl, rfl⟩
def hexD : List UInt8 := [48, 49, 50, 51, 52, 53, 54, 55, 56, 57, 97, 98, 99, 100, 101, 102, 65, 66, 67, 68, 69, 70]
def blkD : List UInt8 := [32, 9, 10, 13]
theorem all256 {q : Nat → Bool} (h : (List.range 256).all q = true) {x : Int} (h0 : 0 ≤ x) (h1 : x < 256) : q x.toNat = true := List.all_eq_true.1 h _ (List.mem_range.2 (by omega))
theorem ix_hex {x : Int} (h0 : 0 ≤ x) (h1 : x < 256) : (if 16 ≤ ixB hexD x then ixB hexD x - 6 else ixB hexD x) = hexI x := by
  have h := all256 (q := fun n => decide ((if 16 ≤ ixB hexD (n : Int) then ixB hexD (n : Int) - 6 else ixB hexD (n : Int)) = hexI (n : Int))) (by kernel_rfl) h0 h1
  simp only [Int.toNat_of_nonneg h0] at h
  exact of_decide_eq_true h
theorem ix_blk {x : Int} (h0 : 0 ≤ x) (h1 : x < 256) : decide (0 ≤ ixB blkD x) = blkI x := by
  have h := all256 (q := fun n => decide (0 ≤ ixB blkD (n : Int)) == blkI (n : Int)) (by kernel_rfl) h0 h1
  simp only [Int.toNat_of_nonneg h0] at h
  simpa using h
theorem ix_sym {x : Int} (h0 : 0 ≤ x) (h1 : x < 256) : decide (0 ≤ ixB symbols x) = symI x := by
  have h := all256 (q := fun n => decide (0 ≤ ixB symbols (n : Int)) == symI (n : Int)) (by kernel_rfl) h0 h1
  simp only [Int.toNat_of_nonneg h0] at h
  simpa using h
theorem ix_bound {x : Int} (h0 : 0 ≤ x) (h1 : x < 256) : -1 ≤ ixB hexD x ∧ ixB hexD x ≤ 100 := by
  have h := all256 (q := fun n => decide (-1 ≤ ixB hexD (n : Int)) && decide (ixB hexD (n : Int) ≤ 100)) (by kernel_rfl) h0 h1
  simp only [Int.toNat_of_nonneg h0] at h
  simpa using h
theorem hexI_bound {x : Int} (h0 : 0 ≤ x) (h1 : x < 256) : -1 ≤ hexI x ∧ hexI x ≤ 15 := by
  have h := all256 (q := fun n => decide (-1 ≤ hexI (n : Int)) && decide (hexI (n : Int) ≤ 15)) (by kernel_rfl) h0 h1
  simp only [Int.toNat_of_nonneg h0] at h
  simpa using h
set_option maxRecDepth 100000 in
set_option maxHeartbeats 1000000 in
theorem hex_any (x : Int) (w : World) (h0 : 0 ≤ x) (h1 : x < 256) : Calls Tryd.prog 75 #[.int .u8 x] w fun e w' => e = .returned (.int .i64 (hexI x)) ∧ w' = w := by
  have C1 : Hid (Calls Tryd.prog 79 #[.string ⟨#[48, 49, 50, 51, 52, 53, 54, 55, 56, 57, 97, 98, 99, 100, 101, 102, 65, 66, 67, 68, 69, 70]⟩, .int .u8 x] w fun e w' => e = .returned (.int .i64 (ixB hexD x)) ∧ w' = w) := Lib.hid (ix79 hexD x w)
  have he := ix_hex h0 h1
  obtain ⟨b0, b1⟩ := ix_bound h0 h1
  generalize hexI x = y at *
  generalize ixB hexD x = z at *
  clear h0 h1
  by_cases h : 16 ≤ z
  · rw [if_pos h] at he
    subst he
    go_enter Tryd.func75, Tryd.ntmps75
    go_wp2_with (go_at_call 79; (with_reducible refine C1.out.mono ?_); rintro e w1 ⟨rfl, rfl⟩)
    go_ret
    exact ⟨rfl, rfl⟩
  · rw [if_neg h] at he
    subst he
    have q0 : decide (16 ≤ z) = false := decide_eq_false h
    clear h
    go_enter Tryd.func75, Tryd.ntmps75
    go_wp2_with (go_at_call 79; (with_reducible refine C1.out.mono ?_); rintro e w1 ⟨rfl, rfl⟩)
    go_ret
    exact ⟨rfl, rfl⟩
set_option maxRecDepth 100000 in
set_option maxHeartbeats 1000000 in
theorem blk_any (x : Int) (w : World) (h0 : 0 ≤ x) (h1 : x < 256) : Calls Tryd.prog 80 #[.int .u8 x] w fun e w' => e = .returned (.bool (blkI x)) ∧ w' = w := by
  have C1 : Hid (Calls Tryd.prog 79 #[.string ⟨#[32, 9, 10, 13]⟩, .int .u8 x] w fun e w' => e = .returned (.int .i64 (ixB blkD x)) ∧ w' = w) := Lib.hid (ix79 blkD x w)
  rw [← ix_blk h0 h1]
  generalize ixB blkD x = z at *
  clear h0 h1
  go_enter Tryd.func80, Tryd.ntmps80
  go_wp2_with (go_at_call 79; (with_reducible refine C1.out.mono ?_); rintro e w1 ⟨rfl, rfl⟩)
  go_ret
  exact ⟨rfl, rfl⟩
set_option maxRecDepth 100000 in
set_option maxHeartbeats 1000000 in
theorem sym_any (x : Int) (w : World) (h0 : 0 ≤ x) (h1 : x < 256) : Calls Tryd.prog 78 #[.int .u8 x] w fun e w' => e = .returned (.bool (symI x)) ∧ w' = w := by
  have C1 : Hid (Calls Tryd.prog 79 #[.string ⟨#[40, 41, 123, 125, 91, 93, 60, 62, 44, 59, 58, 46, 61, 43, 45, 42, 47, 124, 33, 63, 64]⟩, .int .u8 x] w fun e w' => e = .returned (.int .i64 (ixB symbols x)) ∧ w' = w) := Lib.hid (ix79 symbols x w)
  rw [← ix_sym h0 h1]
  generalize ixB symbols x = z at *
  clear h0 h1
  go_enter Tryd.func78, Tryd.ntmps78
  go_wp2_with (go_at_call 79; (with_reducible refine C1.out.mono ?_); rintro e w1 ⟨rfl, rfl⟩)
  go_ret
  exact ⟨rfl, rfl⟩
set_option maxRecDepth 100000 in
set_option maxHeartbeats 1000000 in
theorem notnl_any (x : Int) (w : World) (h0 : 0 ≤ x) (h1 : x < 256) : Calls Tryd.prog 81 #[.int .u8 x] w fun e w' => e = .returned (.bool (notNl x)) ∧ w' = w := by
  have e0 : notNl x = (x != 10) := rfl
  rw [e0]
  clear h0 h1 e0
  go_enter Tryd.func81, Tryd.ntmps81
  go_wp2_with fail
  go_ret
  exact ⟨rfl, rfl⟩
set_option maxRecDepth 100000 in
set_option maxHeartbeats 1000000 in
theorem quo_any (x : Int) (w : World) (h0 : 0 ≤ x) (h1 : x < 256) : Calls Tryd.prog 77 #[.int .u8 x] w fun e w' => e = .returned (.bool (quoI x)) ∧ w' = w := by
  rcases (by omega : (0 ≤ x ∧ x ≤ 31) ∨ (32 ≤ x ∧ x ≤ 33) ∨ x = 34 ∨ (35 ≤ x ∧ x ≤ 126) ∨ (127 ≤ x ∧ x ≤ 255)) with hq | hq | hq | hq | hq
  ·
    have q0 : decide (32 ≤ x) = false := by simp <;> omega
    have q1 : decide (x ≤ 126) = true := by simp <;> omega
    have q2 : (x != 34) = true := by simp <;> omega
    have q3 : (x == 34) = false := by simp <;> omega
    clear hq h0 h1
    go_enter Tryd.func77, Tryd.ntmps77
    go_wp2_with fail
    go_ret
    exact ⟨by simp [quoI, q0, q1, q3], rfl⟩
  ·
    have q0 : decide (32 ≤ x) = true := by simp <;> omega
    have q1 : decide (x ≤ 126) = true := by simp <;> omega
    have q2 : (x != 34) = true := by simp <;> omega
    have q3 : (x == 34) = false := by simp <;> omega
    clear hq h0 h1
    go_enter Tryd.func77, Tryd.ntmps77
    go_wp2_with fail
    go_ret
    exact ⟨by simp [quoI, q0, q1, q3], rfl⟩
  ·
    have q0 : decide (32 ≤ x) = true := by simp <;> omega
    have q1 : decide (x ≤ 126) = true := by simp <;> omega
    have q2 : (x != 34) = false := by simp <;> omega
    have q3 : (x == 34) = true := by simp <;> omega
    clear hq h0 h1
    go_enter Tryd.func77, Tryd.ntmps77
    go_wp2_with fail
    go_ret
    exact ⟨by simp [quoI, q0, q1, q3], rfl⟩
  ·
    have q0 : decide (32 ≤ x) = true := by simp <;> omega
    have q1 : decide (x ≤ 126) = true := by simp <;> omega
    have q2 : (x != 34) = true := by simp <;> omega
    have q3 : (x == 34) = false := by simp <;> omega
    clear hq h0 h1
    go_enter Tryd.func77, Tryd.ntmps77
    go_wp2_with fail
    go_ret
    exact ⟨by simp [quoI, q0, q1, q3], rfl⟩
  ·
    have q0 : decide (32 ≤ x) = true := by simp <;> omega
    have q1 : decide (x ≤ 126) = false := by simp <;> omega
    have q2 : (x != 34) = true := by simp <;> omega
    have q3 : (x == 34) = false := by simp <;> omega
    clear hq h0 h1
    go_enter Tryd.func77, Tryd.ntmps77
    go_wp2_with fail
    go_ret
    exact ⟨by simp [quoI, q0, q1, q3], rfl⟩
set_option maxRecDepth 100000 in
set_option maxHeartbeats 1000000 in
theorem ishex_any (x : Int) (w : World) (h0 : 0 ≤ x) (h1 : x < 256) : Calls Tryd.prog 74 #[.int .u8 x] w fun e w' => e = .returned (.bool (isHex x)) ∧ w' = w := by
  have C1 := Lib.hid (hex_any x w h0 h1)
  unfold isHex
  generalize hexI x = z at *
  clear h0 h1
  go_enter Tryd.func74, Tryd.ntmps74
  go_wp2_with (go_at_call 75; (with_reducible refine C1.out.mono ?_); rintro e w1 ⟨rfl, rfl⟩)
  go_ret
  exact ⟨rfl, rfl⟩
def digB (base x : Int) : Bool := isHex x && decide (hexI x < base)
set_option maxRecDepth 100000 in
set_option maxHeartbeats 1000000 in
theorem digit2_any (x base : Int) (bx : Nat) (w : World) (h0 : 0 ≤ x) (h1 : x < 256) (hb : Blk w bx 3 #[.int .i64 base]) : Calls Tryd.prog 76 #[.int .u8 x, .pointer (some ⟨bx, 0, none⟩)] w fun e w' => e = .returned (.bool (digB base x)) ∧ ∃ m, w' = w.drewN m := by
  have C1 := Lib.hid (fun W => hex_any x W h0 h1)
  have e0 := hb.cell 0
  simp at e0
  unfold digB isHex
  generalize hexI x = z at *
  clear h0 h1 hb
  by_cases h : 0 ≤ z
  · have q0 : decide (0 ≤ z) = true := decide_eq_true h
    go_enter Tryd.func76, Tryd.ntmps76
    go_upto_region 1 with fail
    go_quiet (first | (go_at_call 75; refine Calls.quiet_of_same (C1.out _)))
    go_wp2
    go_ret
    exact ⟨by simp [q0], _, rfl⟩
  · have q0 : decide (0 ≤ z) = false := decide_eq_false h
    clear h
    go_enter Tryd.func76, Tryd.ntmps76
    go_upto_region 1 with fail
    go_quiet (first | (go_at_call 75; refine Calls.quiet_of_same (C1.out _)))
    go_wp2
    go_ret
    exact ⟨by simp [q0], _, rfl⟩
set_option maxRecDepth 100000 in
set_option maxHeartbeats 1000000 in
theorem is92_any (x y : Int) (bx : Nat) (w : World) (hb : Blk w bx 5 #[.int .u8 y]) : Calls Tryd.prog 92 #[.int .u8 x, .pointer (some ⟨bx, 0, none⟩)] w fun e w' => e = .returned (.bool (isI y x)) ∧ w' = w := by
  have e0 := hb.cell 0
  simp at e0
  unfold isI
  clear hb
  go_enter Tryd.func92, Tryd.ntmps92
  go_wp2_with fail
  go_ret
  exact ⟨rfl, rfl⟩

end Go.Proofs.YtkihoekldklkhaaDoor

/- Small functions on bytes: of the program and of the reference. -/
import Derived.Test.YtkalllenggmgoaaDoorSz
import Derived.Test.YtkalllenggmgoaaDoorFc
namespace Go.Proofs.YtkalllenggmgoaaDoor
open Go.RowKit
set_option linter.unusedVariables false
set_option linter.unusedSimpArgs false

set_option maxRecDepth 100000 in
set_option maxHeartbeats 1000000 in
theorem in_any (x lo hi : Int) (w : World) : Calls Tryd.prog 50 #[.int .u8 x, .int .u8 lo, .int .u8 hi] w fun e w' => e = .returned (.bool (inI x lo hi)) ∧ w' = w := by
  unfold inI
  cases h1 : decide (lo ≤ x) with
  | true =>
    cases h2 : decide (x ≤ hi) <;>
    · go_enter Tryd.func50, Tryd.ntmps50
      go_wp2_with fail
      go_ret
      exact ⟨by first | rfl | simp, rfl⟩
  | false =>
    go_enter Tryd.func50, Tryd.ntmps50
    go_wp2_with fail
    go_ret
    exact ⟨rfl, rfl⟩
theorem eqI (x a : Int) : decide (x = a) = (x == a) := by rw [Bool.eq_iff_iff]; simp
set_option maxRecDepth 100000 in
set_option maxHeartbeats 1000000 in
theorem named_any (x : Int) (w : World) : Calls Tryd.prog 32 #[.int .u8 x] w fun e w' => e = .returned (.bool (namedI x)) ∧ w' = w := by
  unfold namedI
  rw [eqI]
  cases h1 : inI x 65 90 with
  | true =>
    go_enter Tryd.func32, Tryd.ntmps32
    go_wp2_with (go_at_call 50; (with_reducible refine (in_any _ _ _ _).mono ?_); rintro e w1 ⟨rfl, rfl⟩)
    go_ret
    exact ⟨rfl, rfl⟩
  | false =>
    cases h2 : inI x 97 122 with
    | true =>
      go_enter Tryd.func32, Tryd.ntmps32
      go_wp2_with (go_at_call 50; (with_reducible refine (in_any _ _ _ _).mono ?_); rintro e w1 ⟨rfl, rfl⟩)
      go_ret
      exact ⟨rfl, rfl⟩
    | false =>
      cases h3 : inI x 48 57 with
      | true =>
        go_enter Tryd.func32, Tryd.ntmps32
        go_wp2_with (go_at_call 50; (with_reducible refine (in_any _ _ _ _).mono ?_); rintro e w1 ⟨rfl, rfl⟩)
        go_ret
        exact ⟨rfl, rfl⟩
      | false =>
        cases h4 : (x == 45) <;>
        · go_enter Tryd.func32, Tryd.ntmps32
          go_wp2_with (go_at_call 50; (with_reducible refine (in_any _ _ _ _).mono ?_); rintro e w1 ⟨rfl, rfl⟩)
          go_ret
          exact ⟨by first | rfl | simp [h4], rfl⟩
set_option maxRecDepth 100000 in
set_option maxHeartbeats 1000000 in
theorem vis_any (x : Int) (w : World) : Calls Tryd.prog 54 #[.int .u8 x] w fun e w' => e = .returned (.bool (visI x)) ∧ w' = w := by
  unfold visI
  go_enter Tryd.func54, Tryd.ntmps54
  go_wp2_with (go_at_call 50; (with_reducible refine (in_any _ _ _ _).mono ?_); rintro e w1 ⟨rfl, rfl⟩)
  go_ret
  exact ⟨rfl, rfl⟩
set_option maxRecDepth 100000 in
set_option maxHeartbeats 1000000 in
theorem blank_any (x : Int) (w : World) : Calls Tryd.prog 72 #[.int .u8 x] w fun e w' => e = .returned (.bool (blankI x)) ∧ w' = w := by
  unfold blankI
  rw [eqI, eqI]
  cases h1 : (x == 32) with
  | true =>
    go_enter Tryd.func72, Tryd.ntmps72
    go_wp2_with fail
    go_ret
    exact ⟨rfl, rfl⟩
  | false =>
    cases h2 : (x == 9) <;>
    · go_enter Tryd.func72, Tryd.ntmps72
      go_wp2_with fail
      go_ret
      exact ⟨by first | rfl | simp [h2], rfl⟩
set_option maxRecDepth 100000 in
set_option maxHeartbeats 1000000 in
theorem rblank_any (x : Int) (w : World) : Calls Tryd.prog 43 #[.int .u8 x] w fun e w' => e = .returned (.bool (blankI x)) ∧ w' = w := by
  unfold blankI
  rw [eqI, eqI]
  cases h1 : (x == 32) with
  | true =>
    go_enter Tryd.func43, Tryd.ntmps43
    go_wp2_with fail
    go_ret
    exact ⟨rfl, rfl⟩
  | false =>
    cases h2 : (x == 9) <;>
    · go_enter Tryd.func43, Tryd.ntmps43
      go_wp2_with fail
      go_ret
      exact ⟨by first | rfl | simp [h2], rfl⟩
set_option maxRecDepth 100000 in
set_option maxHeartbeats 1000000 in
theorem notnamed_any (x : Int) (w : World) : Calls Tryd.prog 31 #[.int .u8 x] w fun e w' => e = .returned (.bool (!namedI x)) ∧ w' = w := by
  go_enter Tryd.func31, Tryd.ntmps31
  go_wp2_with (go_at_call 32; (with_reducible refine (named_any _ _).mono ?_); rintro e w1 ⟨rfl, rfl⟩)
  go_ret
  exact ⟨rfl, rfl⟩
def txtI (x : Int) : Bool := (x == 32) || visI x
set_option maxRecDepth 100000 in
set_option maxHeartbeats 1000000 in
theorem nottext_any (x : Int) (w : World) : Calls Tryd.prog 53 #[.int .u8 x] w fun e w' => e = .returned (.bool (!txtI x)) ∧ w' = w := by
  unfold txtI
  cases h1 : (x == 32) with
  | true =>
    have h2 : (x != 32) = false := by rw [bne, h1]; rfl
    go_enter Tryd.func53, Tryd.ntmps53
    go_wp2_with fail
    go_ret
    exact ⟨rfl, rfl⟩
  | false =>
    have h2 : (x != 32) = true := by rw [bne, h1]; rfl
    go_enter Tryd.func53, Tryd.ntmps53
    go_wp2_with (go_at_call 54; (with_reducible refine (vis_any _ _).mono ?_); rintro e w1 ⟨rfl, rfl⟩)
    go_ret
    exact ⟨by simp, rfl⟩
set_option maxRecDepth 100000 in
set_option maxHeartbeats 1000000 in
theorem rnamed_any (x : Int) (w : World) (h0 : 0 ≤ x) (h1 : x < 256) : Calls Tryd.prog 33 #[.int .u8 x] w fun e w' => e = .returned (.bool (namedI x)) ∧ w' = w := by
  rcases (by omega : (0 ≤ x ∧ x ≤ 44) ∨ x = 45 ∨ (46 ≤ x ∧ x ≤ 47) ∨ (48 ≤ x ∧ x ≤ 57) ∨ (58 ≤ x ∧ x ≤ 64) ∨ (65 ≤ x ∧ x ≤ 90) ∨ (91 ≤ x ∧ x ≤ 96) ∨ (97 ≤ x ∧ x ≤ 122) ∨ (123 ≤ x ∧ x ≤ 255)) with hq | hq | hq | hq | hq | hq | hq | hq | hq
  ·
    have q0 : decide (65 ≤ x) = false := by simp <;> omega
    have q1 : decide (x ≤ 90) = true := by simp <;> omega
    have q2 : decide (97 ≤ x) = false := by simp <;> omega
    have q3 : decide (x ≤ 122) = true := by simp <;> omega
    have q4 : decide (48 ≤ x) = false := by simp <;> omega
    have q5 : decide (x ≤ 57) = true := by simp <;> omega
    have q6 : (x == 45) = false := by simp <;> omega
    clear hq h0 h1
    go_enter Tryd.func33, Tryd.ntmps33
    go_wp2_with fail
    go_ret
    exact ⟨by simp [namedI, inI, eqI, q0, q1, q2, q3, q4, q5, q6], rfl⟩
  ·
    have q0 : decide (65 ≤ x) = false := by simp <;> omega
    have q1 : decide (x ≤ 90) = true := by simp <;> omega
    have q2 : decide (97 ≤ x) = false := by simp <;> omega
    have q3 : decide (x ≤ 122) = true := by simp <;> omega
    have q4 : decide (48 ≤ x) = false := by simp <;> omega
    have q5 : decide (x ≤ 57) = true := by simp <;> omega
    have q6 : (x == 45) = true := by simp <;> omega
    clear hq h0 h1
    go_enter Tryd.func33, Tryd.ntmps33
    go_wp2_with fail
    go_ret
    exact ⟨by simp [namedI, inI, eqI, q0, q1, q2, q3, q4, q5, q6], rfl⟩
  ·
    have q0 : decide (65 ≤ x) = false := by simp <;> omega
    have q1 : decide (x ≤ 90) = true := by simp <;> omega
    have q2 : decide (97 ≤ x) = false := by simp <;> omega
    have q3 : decide (x ≤ 122) = true := by simp <;> omega
    have q4 : decide (48 ≤ x) = false := by simp <;> omega
    have q5 : decide (x ≤ 57) = true := by simp <;> omega
    have q6 : (x == 45) = false := by simp <;> omega
    clear hq h0 h1
    go_enter Tryd.func33, Tryd.ntmps33
    go_wp2_with fail
    go_ret
    exact ⟨by simp [namedI, inI, eqI, q0, q1, q2, q3, q4, q5, q6], rfl⟩
  ·
    have q0 : decide (65 ≤ x) = false := by simp <;> omega
    have q1 : decide (x ≤ 90) = true := by simp <;> omega
    have q2 : decide (97 ≤ x) = false := by simp <;> omega
    have q3 : decide (x ≤ 122) = true := by simp <;> omega
    have q4 : decide (48 ≤ x) = true := by simp <;> omega
    have q5 : decide (x ≤ 57) = true := by simp <;> omega
    have q6 : (x == 45) = false := by simp <;> omega
    clear hq h0 h1
    go_enter Tryd.func33, Tryd.ntmps33
    go_wp2_with fail
    go_ret
    exact ⟨by simp [namedI, inI, eqI, q0, q1, q2, q3, q4, q5, q6], rfl⟩
  ·
    have q0 : decide (65 ≤ x) = false := by simp <;> omega
    have q1 : decide (x ≤ 90) = true := by simp <;> omega
    have q2 : decide (97 ≤ x) = false := by simp <;> omega
    have q3 : decide (x ≤ 122) = true := by simp <;> omega
    have q4 : decide (48 ≤ x) = true := by simp <;> omega
    have q5 : decide (x ≤ 57) = false := by simp <;> omega
    have q6 : (x == 45) = false := by simp <;> omega
    clear hq h0 h1
    go_enter Tryd.func33, Tryd.ntmps33
    go_wp2_with fail
    go_ret
    exact ⟨by simp [namedI, inI, eqI, q0, q1, q2, q3, q4, q5, q6], rfl⟩
  ·
    have q0 : decide (65 ≤ x) = true := by simp <;> omega
    have q1 : decide (x ≤ 90) = true := by simp <;> omega
    have q2 : decide (97 ≤ x) = false := by simp <;> omega
    have q3 : decide (x ≤ 122) = true := by simp <;> omega
    have q4 : decide (48 ≤ x) = true := by simp <;> omega
    have q5 : decide (x ≤ 57) = false := by simp <;> omega
    have q6 : (x == 45) = false := by simp <;> omega
    clear hq h0 h1
    go_enter Tryd.func33, Tryd.ntmps33
    go_wp2_with fail
    go_ret
    exact ⟨by simp [namedI, inI, eqI, q0, q1, q2, q3, q4, q5, q6], rfl⟩
  ·
    have q0 : decide (65 ≤ x) = true := by simp <;> omega
    have q1 : decide (x ≤ 90) = false := by simp <;> omega
    have q2 : decide (97 ≤ x) = false := by simp <;> omega
    have q3 : decide (x ≤ 122) = true := by simp <;> omega
    have q4 : decide (48 ≤ x) = true := by simp <;> omega
    have q5 : decide (x ≤ 57) = false := by simp <;> omega
    have q6 : (x == 45) = false := by simp <;> omega
    clear hq h0 h1
    go_enter Tryd.func33, Tryd.ntmps33
    go_wp2_with fail
    go_ret
    exact ⟨by simp [namedI, inI, eqI, q0, q1, q2, q3, q4, q5, q6], rfl⟩
  ·
    have q0 : decide (65 ≤ x) = true := by simp <;> omega
    have q1 : decide (x ≤ 90) = false := by simp <;> omega
    have q2 : decide (97 ≤ x) = true := by simp <;> omega
    have q3 : decide (x ≤ 122) = true := by simp <;> omega
    have q4 : decide (48 ≤ x) = true := by simp <;> omega
    have q5 : decide (x ≤ 57) = false := by simp <;> omega
    have q6 : (x == 45) = false := by simp <;> omega
    clear hq h0 h1
    go_enter Tryd.func33, Tryd.ntmps33
    go_wp2_with fail
    go_ret
    exact ⟨by simp [namedI, inI, eqI, q0, q1, q2, q3, q4, q5, q6], rfl⟩
  ·
    have q0 : decide (65 ≤ x) = true := by simp <;> omega
    have q1 : decide (x ≤ 90) = false := by simp <;> omega
    have q2 : decide (97 ≤ x) = true := by simp <;> omega
    have q3 : decide (x ≤ 122) = false := by simp <;> omega
    have q4 : decide (48 ≤ x) = true := by simp <;> omega
    have q5 : decide (x ≤ 57) = false := by simp <;> omega
    have q6 : (x == 45) = false := by simp <;> omega
    clear hq h0 h1
    go_enter Tryd.func33, Tryd.ntmps33
    go_wp2_with fail
    go_ret
    exact ⟨by simp [namedI, inI, eqI, q0, q1, q2, q3, q4, q5, q6], rfl⟩
set_option maxRecDepth 100000 in
set_option maxHeartbeats 1000000 in
theorem rvis_any (x : Int) (w : World) (h0 : 0 ≤ x) (h1 : x < 256) : Calls Tryd.prog 55 #[.int .u8 x] w fun e w' => e = .returned (.bool (visI x)) ∧ w' = w := by
  rcases (by omega : (0 ≤ x ∧ x ≤ 32) ∨ (33 ≤ x ∧ x ≤ 126) ∨ (127 ≤ x ∧ x ≤ 255)) with hq | hq | hq
  ·
    have q0 : decide (32 < x) = false := by simp <;> omega
    have q1 : decide (x < 127) = true := by simp <;> omega
    have q2 : decide (33 ≤ x) = false := by simp <;> omega
    have q3 : decide (x ≤ 126) = true := by simp <;> omega
    clear hq h0 h1
    go_enter Tryd.func55, Tryd.ntmps55
    go_wp2_with fail
    go_ret
    exact ⟨by simp [visI, inI, q2, q3], rfl⟩
  ·
    have q0 : decide (32 < x) = true := by simp <;> omega
    have q1 : decide (x < 127) = true := by simp <;> omega
    have q2 : decide (33 ≤ x) = true := by simp <;> omega
    have q3 : decide (x ≤ 126) = true := by simp <;> omega
    clear hq h0 h1
    go_enter Tryd.func55, Tryd.ntmps55
    go_wp2_with fail
    go_ret
    exact ⟨by simp [visI, inI, q2, q3], rfl⟩
  ·
    have q0 : decide (32 < x) = true := by simp <;> omega
    have q1 : decide (x < 127) = false := by simp <;> omega
    have q2 : decide (33 ≤ x) = true := by simp <;> omega
    have q3 : decide (x ≤ 126) = false := by simp <;> omega
    clear hq h0 h1
    go_enter Tryd.func55, Tryd.ntmps55
    go_wp2_with fail
    go_ret
    exact ⟨by simp [visI, inI, q2, q3], rfl⟩
/-- A small letter. -/
def lowI (x : Int) : Int := if inI x 65 90 then x + 32 else x
set_option maxRecDepth 100000 in
set_option maxHeartbeats 1000000 in
theorem rlow_any (x : Int) (w : World) (h0 : 0 ≤ x) (h1 : x < 256) : Calls Tryd.prog 45 #[.int .u8 x] w fun e w' => e = .returned (.int .u8 (lowI x)) ∧ w' = w := by
  rcases (by omega : (0 ≤ x ∧ x ≤ 64) ∨ (65 ≤ x ∧ x ≤ 90) ∨ (91 ≤ x ∧ x ≤ 255)) with hq | hq | hq
  ·
    have q0 : decide (65 ≤ x) = false := by simp <;> omega
    have q1 : decide (x ≤ 90) = true := by simp <;> omega
    have hwr : IntKind.u8.wrap (x + 32) = (x + 32) % 256 := rfl
    have hx32 : (65 ≤ x ∧ x ≤ 90) → (x + 32) % 256 = x + 32 := by omega
    go_enter Tryd.func45, Tryd.ntmps45
    go_wp2_with fail
    go_ret
    exact ⟨by simp [lowI, inI, q0, q1], rfl⟩
  ·
    have q0 : decide (65 ≤ x) = true := by simp <;> omega
    have q1 : decide (x ≤ 90) = true := by simp <;> omega
    have hwr : IntKind.u8.wrap (x + 32) = (x + 32) % 256 := rfl
    have hx32 : (65 ≤ x ∧ x ≤ 90) → (x + 32) % 256 = x + 32 := by omega
    go_enter Tryd.func45, Tryd.ntmps45
    go_wp2_with fail
    go_ret
    exact ⟨by simp [lowI, inI, q0, q1], rfl⟩
  ·
    have q0 : decide (65 ≤ x) = true := by simp <;> omega
    have q1 : decide (x ≤ 90) = false := by simp <;> omega
    have hwr : IntKind.u8.wrap (x + 32) = (x + 32) % 256 := rfl
    have hx32 : (65 ≤ x ∧ x ≤ 90) → (x + 32) % 256 = x + 32 := by omega
    go_enter Tryd.func45, Tryd.ntmps45
    go_wp2_with fail
    go_ret
    exact ⟨by simp [lowI, inI, q0, q1], rfl⟩
set_option maxRecDepth 100000 in
set_option maxHeartbeats 1000000 in
theorem low_any (x : Int) (w : World) (h0 : 0 ≤ x) (h1 : x < 256) : Calls Tryd.prog 48 #[.int .u8 x] w fun e w' => e = .returned (.int .u8 (lowI x)) ∧ w' = w := by
  cases q : inI x 65 90 with
  | true =>
    have hb : 65 ≤ x ∧ x ≤ 90 := by unfold inI at q; simpa using q
    go_enter Tryd.func48, Tryd.ntmps48
    go_wp2_with (go_at_call 50; (with_reducible refine (in_any _ _ _ _).mono ?_); rintro e w1 ⟨rfl, rfl⟩)
    go_ret
    exact ⟨by unfold lowI; rw [q]; simp; omega, rfl⟩
  | false =>
    go_enter Tryd.func48, Tryd.ntmps48
    go_wp2_with (go_at_call 50; (with_reducible refine (in_any _ _ _ _).mono ?_); rintro e w1 ⟨rfl, rfl⟩)
    go_ret
    exact ⟨by unfold lowI; rw [q]; simp, rfl⟩
end Go.Proofs.YtkalllenggmgoaaDoor

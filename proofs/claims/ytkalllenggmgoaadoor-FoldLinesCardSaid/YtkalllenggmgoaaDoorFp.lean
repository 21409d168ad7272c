/- The reference's scanner. -/
import Derived.Test.YtkalllenggmgoaaDoorFo
namespace Go.Proofs.YtkalllenggmgoaaDoor
open Go.RowKit
set_option linter.unusedVariables false
set_option linter.unusedSimpArgs false

set_option maxRecDepth 100000 in
set_option maxHeartbeats 1000000 in
theorem rneeds_any (st : Nat) (hst : st ≤ 7) (lo : Bool) (W : World) : Calls Tryd.prog 40 #[.int .i64 (st : Int), .bool lo] W fun e w' => e = .returned (.int .i64 (needsR st lo : Int)) ∧ Below W.heap.size W w' := by
  rcases (by omega : st = 0 ∨ st = 1 ∨ st = 2 ∨ st = 3 ∨ st = 4 ∨ st = 5 ∨ st = 6 ∨ st = 7) with e | e | e | e | e | e | e | e <;> subst e <;> cases lo <;>
  · go_enter Tryd.func40, Tryd.ntmps40
    go_wp2_with fail
    go_ret
    exact ⟨rfl, (Below.refl W.heap.size W).alloc (Nat.le_refl _) _⟩
def nextI (st : Nat) (x : Int) (lo : Bool) (M L : Int) : Int :=
  match st with
  | 0 => if lo && (decide (0 < L) && blankI x) then 4 else if x == 13 then 7 else if namedI x && decide (L < 100) then 1 else 9
  | 1 => if x == 58 then (if lo then 4 else 2) else if namedI x && decide (M < 32) then 1 else 9
  | 2 => if x == 32 then 3 else 9
  | 3 => if visI x || (lo && blankI x) then 4 else if x == 13 then 6 else 9
  | 4 => if visI x || (lo && blankI x) then 4 else if x == 13 then 6 else if x == 32 then 5 else 9
  | 5 => if visI x || (lo && blankI x) then 4 else if x == 32 then 5 else 9
  | 6 => if x == 10 then 0 else 9
  | 7 => if x == 10 then 8 else 9
  | _ => 9
theorem nextI_R (st : Nat) (c : UInt8) (lo : Bool) (nm ln : Nat) : (nextR st c lo nm ln : Int) = nextI st (c.toNat : Int) lo nm ln := by
  obtain ⟨b1, b2, b3, b4, b5, b6, b7⟩ := byteF c
  have e0 : decide (0 < ln) = decide ((0 : Int) < (ln : Int)) := by congr 1; apply propext; omega
  have e1 : decide (ln < 100) = decide ((ln : Int) < 100) := by congr 1; apply propext; omega
  have e2 : decide (nm < 32) = decide ((nm : Int) < 32) := by congr 1; apply propext; omega
  have hif : ∀ (p : Prop) [Decidable p] (b : Bool) (u v : Nat), decide p = b → (if p then u else v) = (if b = true then u else v) := fun p _ b u v h => by subst h; by_cases hp : p <;> simp [hp]
  unfold nextR nextI
  split <;> simp only [b1, b2, b3, e0, e1, e2, hif _ _ _ _ b4, hif _ _ _ _ b5, hif _ _ _ _ b6, hif _ _ _ _ b7] <;> (repeat' split) <;> first | rfl | simp_all

set_option maxRecDepth 100000 in
set_option maxHeartbeats 1000000 in
theorem next_any (st : Nat) (hst : st ≤ 7) (x : Int) (hx0 : 0 ≤ x) (hx1 : x < 256) (lo : Bool) (M L : Int) (W : World) :
    Calls Tryd.prog 39 #[.int .i64 (st : Int), .int .u8 x, .bool lo, .int .i64 M, .int .i64 L] W fun e w' => e = .returned (.int .i64 (nextI st x lo M L)) ∧ w' = W := by
  rcases (by omega : st = 0 ∨ st = 1 ∨ st = 2 ∨ st = 3 ∨ st = 4 ∨ st = 5 ∨ st = 6 ∨ st = 7) with e | e | e | e | e | e | e | e <;> subst e
  ·
    cases lo with
    | true =>
      cases hL0 : decide (0 < L) with
      | true =>
        cases hbl : blankI x with
        | true =>
          have HR := Lib.hid (show nextI 0 x true M L = 4 by simp [nextI, hL0, hbl])
          rw [HR.out]
          go_enter Tryd.func39, Tryd.ntmps39
          go_wp2_with (first | (go_at_call 43; (with_reducible refine (rblank_any _ _).mono ?_); rintro e w1 ⟨rfl, rfl⟩) | (go_at_call 33; (with_reducible refine (rnamed_any _ _ hx0 hx1).mono ?_); rintro e w1 ⟨rfl, rfl⟩) | (go_at_call 55; (with_reducible refine (rvis_any _ _ hx0 hx1).mono ?_); rintro e w1 ⟨rfl, rfl⟩))
          go_ret
          exact ⟨rfl, rfl⟩
        | false =>
          cases h13 : (x == 13) with
          | true =>
            have HR := Lib.hid (show nextI 0 x true M L = 7 by simp [nextI, hL0, hbl, h13])
            rw [HR.out]
            go_enter Tryd.func39, Tryd.ntmps39
            go_wp2_with (first | (go_at_call 43; (with_reducible refine (rblank_any _ _).mono ?_); rintro e w1 ⟨rfl, rfl⟩) | (go_at_call 33; (with_reducible refine (rnamed_any _ _ hx0 hx1).mono ?_); rintro e w1 ⟨rfl, rfl⟩) | (go_at_call 55; (with_reducible refine (rvis_any _ _ hx0 hx1).mono ?_); rintro e w1 ⟨rfl, rfl⟩))
            go_ret
            exact ⟨rfl, rfl⟩
          | false =>
            cases hnm : namedI x with
            | true =>
              cases hL1 : decide (L < 100) with
              | true =>
                have HR := Lib.hid (show nextI 0 x true M L = 1 by simp [nextI, hL0, hbl, h13, hnm, hL1])
                rw [HR.out]
                go_enter Tryd.func39, Tryd.ntmps39
                go_wp2_with (first | (go_at_call 43; (with_reducible refine (rblank_any _ _).mono ?_); rintro e w1 ⟨rfl, rfl⟩) | (go_at_call 33; (with_reducible refine (rnamed_any _ _ hx0 hx1).mono ?_); rintro e w1 ⟨rfl, rfl⟩) | (go_at_call 55; (with_reducible refine (rvis_any _ _ hx0 hx1).mono ?_); rintro e w1 ⟨rfl, rfl⟩))
                go_ret
                exact ⟨rfl, rfl⟩
              | false =>
                have HR := Lib.hid (show nextI 0 x true M L = 9 by simp [nextI, hL0, hbl, h13, hnm, hL1])
                rw [HR.out]
                go_enter Tryd.func39, Tryd.ntmps39
                go_wp2_with (first | (go_at_call 43; (with_reducible refine (rblank_any _ _).mono ?_); rintro e w1 ⟨rfl, rfl⟩) | (go_at_call 33; (with_reducible refine (rnamed_any _ _ hx0 hx1).mono ?_); rintro e w1 ⟨rfl, rfl⟩) | (go_at_call 55; (with_reducible refine (rvis_any _ _ hx0 hx1).mono ?_); rintro e w1 ⟨rfl, rfl⟩))
                go_ret
                exact ⟨rfl, rfl⟩
            | false =>
              have HR := Lib.hid (show nextI 0 x true M L = 9 by simp [nextI, hL0, hbl, h13, hnm])
              rw [HR.out]
              go_enter Tryd.func39, Tryd.ntmps39
              go_wp2_with (first | (go_at_call 43; (with_reducible refine (rblank_any _ _).mono ?_); rintro e w1 ⟨rfl, rfl⟩) | (go_at_call 33; (with_reducible refine (rnamed_any _ _ hx0 hx1).mono ?_); rintro e w1 ⟨rfl, rfl⟩) | (go_at_call 55; (with_reducible refine (rvis_any _ _ hx0 hx1).mono ?_); rintro e w1 ⟨rfl, rfl⟩))
              go_ret
              exact ⟨rfl, rfl⟩
      | false =>
        cases h13 : (x == 13) with
        | true =>
          have HR := Lib.hid (show nextI 0 x true M L = 7 by simp [nextI, hL0, h13])
          rw [HR.out]
          go_enter Tryd.func39, Tryd.ntmps39
          go_wp2_with (first | (go_at_call 43; (with_reducible refine (rblank_any _ _).mono ?_); rintro e w1 ⟨rfl, rfl⟩) | (go_at_call 33; (with_reducible refine (rnamed_any _ _ hx0 hx1).mono ?_); rintro e w1 ⟨rfl, rfl⟩) | (go_at_call 55; (with_reducible refine (rvis_any _ _ hx0 hx1).mono ?_); rintro e w1 ⟨rfl, rfl⟩))
          go_ret
          exact ⟨rfl, rfl⟩
        | false =>
          cases hnm : namedI x with
          | true =>
            cases hL1 : decide (L < 100) with
            | true =>
              have HR := Lib.hid (show nextI 0 x true M L = 1 by simp [nextI, hL0, h13, hnm, hL1])
              rw [HR.out]
              go_enter Tryd.func39, Tryd.ntmps39
              go_wp2_with (first | (go_at_call 43; (with_reducible refine (rblank_any _ _).mono ?_); rintro e w1 ⟨rfl, rfl⟩) | (go_at_call 33; (with_reducible refine (rnamed_any _ _ hx0 hx1).mono ?_); rintro e w1 ⟨rfl, rfl⟩) | (go_at_call 55; (with_reducible refine (rvis_any _ _ hx0 hx1).mono ?_); rintro e w1 ⟨rfl, rfl⟩))
              go_ret
              exact ⟨rfl, rfl⟩
            | false =>
              have HR := Lib.hid (show nextI 0 x true M L = 9 by simp [nextI, hL0, h13, hnm, hL1])
              rw [HR.out]
              go_enter Tryd.func39, Tryd.ntmps39
              go_wp2_with (first | (go_at_call 43; (with_reducible refine (rblank_any _ _).mono ?_); rintro e w1 ⟨rfl, rfl⟩) | (go_at_call 33; (with_reducible refine (rnamed_any _ _ hx0 hx1).mono ?_); rintro e w1 ⟨rfl, rfl⟩) | (go_at_call 55; (with_reducible refine (rvis_any _ _ hx0 hx1).mono ?_); rintro e w1 ⟨rfl, rfl⟩))
              go_ret
              exact ⟨rfl, rfl⟩
          | false =>
            have HR := Lib.hid (show nextI 0 x true M L = 9 by simp [nextI, hL0, h13, hnm])
            rw [HR.out]
            go_enter Tryd.func39, Tryd.ntmps39
            go_wp2_with (first | (go_at_call 43; (with_reducible refine (rblank_any _ _).mono ?_); rintro e w1 ⟨rfl, rfl⟩) | (go_at_call 33; (with_reducible refine (rnamed_any _ _ hx0 hx1).mono ?_); rintro e w1 ⟨rfl, rfl⟩) | (go_at_call 55; (with_reducible refine (rvis_any _ _ hx0 hx1).mono ?_); rintro e w1 ⟨rfl, rfl⟩))
            go_ret
            exact ⟨rfl, rfl⟩
    | false =>
      cases h13 : (x == 13) with
      | true =>
        have HR := Lib.hid (show nextI 0 x false M L = 7 by simp [nextI, h13])
        rw [HR.out]
        go_enter Tryd.func39, Tryd.ntmps39
        go_wp2_with (first | (go_at_call 43; (with_reducible refine (rblank_any _ _).mono ?_); rintro e w1 ⟨rfl, rfl⟩) | (go_at_call 33; (with_reducible refine (rnamed_any _ _ hx0 hx1).mono ?_); rintro e w1 ⟨rfl, rfl⟩) | (go_at_call 55; (with_reducible refine (rvis_any _ _ hx0 hx1).mono ?_); rintro e w1 ⟨rfl, rfl⟩))
        go_ret
        exact ⟨rfl, rfl⟩
      | false =>
        cases hnm : namedI x with
        | true =>
          cases hL1 : decide (L < 100) with
          | true =>
            have HR := Lib.hid (show nextI 0 x false M L = 1 by simp [nextI, h13, hnm, hL1])
            rw [HR.out]
            go_enter Tryd.func39, Tryd.ntmps39
            go_wp2_with (first | (go_at_call 43; (with_reducible refine (rblank_any _ _).mono ?_); rintro e w1 ⟨rfl, rfl⟩) | (go_at_call 33; (with_reducible refine (rnamed_any _ _ hx0 hx1).mono ?_); rintro e w1 ⟨rfl, rfl⟩) | (go_at_call 55; (with_reducible refine (rvis_any _ _ hx0 hx1).mono ?_); rintro e w1 ⟨rfl, rfl⟩))
            go_ret
            exact ⟨rfl, rfl⟩
          | false =>
            have HR := Lib.hid (show nextI 0 x false M L = 9 by simp [nextI, h13, hnm, hL1])
            rw [HR.out]
            go_enter Tryd.func39, Tryd.ntmps39
            go_wp2_with (first | (go_at_call 43; (with_reducible refine (rblank_any _ _).mono ?_); rintro e w1 ⟨rfl, rfl⟩) | (go_at_call 33; (with_reducible refine (rnamed_any _ _ hx0 hx1).mono ?_); rintro e w1 ⟨rfl, rfl⟩) | (go_at_call 55; (with_reducible refine (rvis_any _ _ hx0 hx1).mono ?_); rintro e w1 ⟨rfl, rfl⟩))
            go_ret
            exact ⟨rfl, rfl⟩
        | false =>
          have HR := Lib.hid (show nextI 0 x false M L = 9 by simp [nextI, h13, hnm])
          rw [HR.out]
          go_enter Tryd.func39, Tryd.ntmps39
          go_wp2_with (first | (go_at_call 43; (with_reducible refine (rblank_any _ _).mono ?_); rintro e w1 ⟨rfl, rfl⟩) | (go_at_call 33; (with_reducible refine (rnamed_any _ _ hx0 hx1).mono ?_); rintro e w1 ⟨rfl, rfl⟩) | (go_at_call 55; (with_reducible refine (rvis_any _ _ hx0 hx1).mono ?_); rintro e w1 ⟨rfl, rfl⟩))
          go_ret
          exact ⟨rfl, rfl⟩
  ·
    cases h58 : (x == 58) with
    | true =>
      cases lo with
      | true =>
        have HR := Lib.hid (show nextI 1 x true M L = 4 by simp [nextI, h58])
        rw [HR.out]
        go_enter Tryd.func39, Tryd.ntmps39
        go_wp2_with (first | (go_at_call 43; (with_reducible refine (rblank_any _ _).mono ?_); rintro e w1 ⟨rfl, rfl⟩) | (go_at_call 33; (with_reducible refine (rnamed_any _ _ hx0 hx1).mono ?_); rintro e w1 ⟨rfl, rfl⟩) | (go_at_call 55; (with_reducible refine (rvis_any _ _ hx0 hx1).mono ?_); rintro e w1 ⟨rfl, rfl⟩))
        go_ret
        exact ⟨rfl, rfl⟩
      | false =>
        have HR := Lib.hid (show nextI 1 x false M L = 2 by simp [nextI, h58])
        rw [HR.out]
        go_enter Tryd.func39, Tryd.ntmps39
        go_wp2_with (first | (go_at_call 43; (with_reducible refine (rblank_any _ _).mono ?_); rintro e w1 ⟨rfl, rfl⟩) | (go_at_call 33; (with_reducible refine (rnamed_any _ _ hx0 hx1).mono ?_); rintro e w1 ⟨rfl, rfl⟩) | (go_at_call 55; (with_reducible refine (rvis_any _ _ hx0 hx1).mono ?_); rintro e w1 ⟨rfl, rfl⟩))
        go_ret
        exact ⟨rfl, rfl⟩
    | false =>
      cases hnm : namedI x with
      | true =>
        cases hM : decide (M < 32) with
        | true =>
          have HR := Lib.hid (show nextI 1 x lo M L = 1 by simp [nextI, h58, hnm, hM])
          cases lo <;>
          · rw [HR.out]
            go_enter Tryd.func39, Tryd.ntmps39
            go_wp2_with (first | (go_at_call 43; (with_reducible refine (rblank_any _ _).mono ?_); rintro e w1 ⟨rfl, rfl⟩) | (go_at_call 33; (with_reducible refine (rnamed_any _ _ hx0 hx1).mono ?_); rintro e w1 ⟨rfl, rfl⟩) | (go_at_call 55; (with_reducible refine (rvis_any _ _ hx0 hx1).mono ?_); rintro e w1 ⟨rfl, rfl⟩))
            go_ret
            exact ⟨rfl, rfl⟩
        | false =>
          have HR := Lib.hid (show nextI 1 x lo M L = 9 by simp [nextI, h58, hnm, hM])
          cases lo <;>
          · rw [HR.out]
            go_enter Tryd.func39, Tryd.ntmps39
            go_wp2_with (first | (go_at_call 43; (with_reducible refine (rblank_any _ _).mono ?_); rintro e w1 ⟨rfl, rfl⟩) | (go_at_call 33; (with_reducible refine (rnamed_any _ _ hx0 hx1).mono ?_); rintro e w1 ⟨rfl, rfl⟩) | (go_at_call 55; (with_reducible refine (rvis_any _ _ hx0 hx1).mono ?_); rintro e w1 ⟨rfl, rfl⟩))
            go_ret
            exact ⟨rfl, rfl⟩
      | false =>
        have HR := Lib.hid (show nextI 1 x lo M L = 9 by simp [nextI, h58, hnm])
        cases lo <;>
        · rw [HR.out]
          go_enter Tryd.func39, Tryd.ntmps39
          go_wp2_with (first | (go_at_call 43; (with_reducible refine (rblank_any _ _).mono ?_); rintro e w1 ⟨rfl, rfl⟩) | (go_at_call 33; (with_reducible refine (rnamed_any _ _ hx0 hx1).mono ?_); rintro e w1 ⟨rfl, rfl⟩) | (go_at_call 55; (with_reducible refine (rvis_any _ _ hx0 hx1).mono ?_); rintro e w1 ⟨rfl, rfl⟩))
          go_ret
          exact ⟨rfl, rfl⟩
  ·
    cases h32 : (x == 32) with
    | true =>
      have HR := Lib.hid (show nextI 2 x lo M L = 3 by simp [nextI, h32])
      cases lo <;>
      · rw [HR.out]
        go_enter Tryd.func39, Tryd.ntmps39
        go_wp2_with (first | (go_at_call 43; (with_reducible refine (rblank_any _ _).mono ?_); rintro e w1 ⟨rfl, rfl⟩) | (go_at_call 33; (with_reducible refine (rnamed_any _ _ hx0 hx1).mono ?_); rintro e w1 ⟨rfl, rfl⟩) | (go_at_call 55; (with_reducible refine (rvis_any _ _ hx0 hx1).mono ?_); rintro e w1 ⟨rfl, rfl⟩))
        go_ret
        exact ⟨rfl, rfl⟩
    | false =>
      have HR := Lib.hid (show nextI 2 x lo M L = 9 by simp [nextI, h32])
      cases lo <;>
      · rw [HR.out]
        go_enter Tryd.func39, Tryd.ntmps39
        go_wp2_with (first | (go_at_call 43; (with_reducible refine (rblank_any _ _).mono ?_); rintro e w1 ⟨rfl, rfl⟩) | (go_at_call 33; (with_reducible refine (rnamed_any _ _ hx0 hx1).mono ?_); rintro e w1 ⟨rfl, rfl⟩) | (go_at_call 55; (with_reducible refine (rvis_any _ _ hx0 hx1).mono ?_); rintro e w1 ⟨rfl, rfl⟩))
        go_ret
        exact ⟨rfl, rfl⟩
  ·
    cases hvi : visI x with
    | true =>
      have HR := Lib.hid (show nextI 3 x lo M L = 4 by simp [nextI, hvi])
      cases lo <;>
      · rw [HR.out]
        go_enter Tryd.func39, Tryd.ntmps39
        go_wp2_with (first | (go_at_call 43; (with_reducible refine (rblank_any _ _).mono ?_); rintro e w1 ⟨rfl, rfl⟩) | (go_at_call 33; (with_reducible refine (rnamed_any _ _ hx0 hx1).mono ?_); rintro e w1 ⟨rfl, rfl⟩) | (go_at_call 55; (with_reducible refine (rvis_any _ _ hx0 hx1).mono ?_); rintro e w1 ⟨rfl, rfl⟩))
        go_ret
        exact ⟨rfl, rfl⟩
    | false =>
      cases lo with
      | true =>
        cases hbl : blankI x with
        | true =>
          have HR := Lib.hid (show nextI 3 x true M L = 4 by simp [nextI, hvi, hbl])
          rw [HR.out]
          go_enter Tryd.func39, Tryd.ntmps39
          go_wp2_with (first | (go_at_call 43; (with_reducible refine (rblank_any _ _).mono ?_); rintro e w1 ⟨rfl, rfl⟩) | (go_at_call 33; (with_reducible refine (rnamed_any _ _ hx0 hx1).mono ?_); rintro e w1 ⟨rfl, rfl⟩) | (go_at_call 55; (with_reducible refine (rvis_any _ _ hx0 hx1).mono ?_); rintro e w1 ⟨rfl, rfl⟩))
          go_ret
          exact ⟨rfl, rfl⟩
        | false =>
          cases h13 : (x == 13) with
          | true =>
            have q32 : (x == 32) = false := by simp at h13 ⊢; omega
            have HR := Lib.hid (show nextI 3 x true M L = 6 by simp [nextI, hvi, hbl, h13, q32])
            rw [HR.out]
            go_enter Tryd.func39, Tryd.ntmps39
            go_wp2_with (first | (go_at_call 43; (with_reducible refine (rblank_any _ _).mono ?_); rintro e w1 ⟨rfl, rfl⟩) | (go_at_call 33; (with_reducible refine (rnamed_any _ _ hx0 hx1).mono ?_); rintro e w1 ⟨rfl, rfl⟩) | (go_at_call 55; (with_reducible refine (rvis_any _ _ hx0 hx1).mono ?_); rintro e w1 ⟨rfl, rfl⟩))
            go_ret
            exact ⟨rfl, rfl⟩
          | false =>
            cases h32 : (x == 32) with
            | true =>
              have HR := Lib.hid (show nextI 3 x true M L = 9 by simp [nextI, hvi, hbl, h13, h32])
              rw [HR.out]
              go_enter Tryd.func39, Tryd.ntmps39
              go_wp2_with (first | (go_at_call 43; (with_reducible refine (rblank_any _ _).mono ?_); rintro e w1 ⟨rfl, rfl⟩) | (go_at_call 33; (with_reducible refine (rnamed_any _ _ hx0 hx1).mono ?_); rintro e w1 ⟨rfl, rfl⟩) | (go_at_call 55; (with_reducible refine (rvis_any _ _ hx0 hx1).mono ?_); rintro e w1 ⟨rfl, rfl⟩))
              go_ret
              exact ⟨rfl, rfl⟩
            | false =>
              have HR := Lib.hid (show nextI 3 x true M L = 9 by simp [nextI, hvi, hbl, h13, h32])
              rw [HR.out]
              go_enter Tryd.func39, Tryd.ntmps39
              go_wp2_with (first | (go_at_call 43; (with_reducible refine (rblank_any _ _).mono ?_); rintro e w1 ⟨rfl, rfl⟩) | (go_at_call 33; (with_reducible refine (rnamed_any _ _ hx0 hx1).mono ?_); rintro e w1 ⟨rfl, rfl⟩) | (go_at_call 55; (with_reducible refine (rvis_any _ _ hx0 hx1).mono ?_); rintro e w1 ⟨rfl, rfl⟩))
              go_ret
              exact ⟨rfl, rfl⟩
      | false =>
        cases h13 : (x == 13) with
        | true =>
          have q32 : (x == 32) = false := by simp at h13 ⊢; omega
          have HR := Lib.hid (show nextI 3 x false M L = 6 by simp [nextI, hvi, h13, q32])
          rw [HR.out]
          go_enter Tryd.func39, Tryd.ntmps39
          go_wp2_with (first | (go_at_call 43; (with_reducible refine (rblank_any _ _).mono ?_); rintro e w1 ⟨rfl, rfl⟩) | (go_at_call 33; (with_reducible refine (rnamed_any _ _ hx0 hx1).mono ?_); rintro e w1 ⟨rfl, rfl⟩) | (go_at_call 55; (with_reducible refine (rvis_any _ _ hx0 hx1).mono ?_); rintro e w1 ⟨rfl, rfl⟩))
          go_ret
          exact ⟨rfl, rfl⟩
        | false =>
          cases h32 : (x == 32) with
          | true =>
            have HR := Lib.hid (show nextI 3 x false M L = 9 by simp [nextI, hvi, h13, h32])
            rw [HR.out]
            go_enter Tryd.func39, Tryd.ntmps39
            go_wp2_with (first | (go_at_call 43; (with_reducible refine (rblank_any _ _).mono ?_); rintro e w1 ⟨rfl, rfl⟩) | (go_at_call 33; (with_reducible refine (rnamed_any _ _ hx0 hx1).mono ?_); rintro e w1 ⟨rfl, rfl⟩) | (go_at_call 55; (with_reducible refine (rvis_any _ _ hx0 hx1).mono ?_); rintro e w1 ⟨rfl, rfl⟩))
            go_ret
            exact ⟨rfl, rfl⟩
          | false =>
            have HR := Lib.hid (show nextI 3 x false M L = 9 by simp [nextI, hvi, h13, h32])
            rw [HR.out]
            go_enter Tryd.func39, Tryd.ntmps39
            go_wp2_with (first | (go_at_call 43; (with_reducible refine (rblank_any _ _).mono ?_); rintro e w1 ⟨rfl, rfl⟩) | (go_at_call 33; (with_reducible refine (rnamed_any _ _ hx0 hx1).mono ?_); rintro e w1 ⟨rfl, rfl⟩) | (go_at_call 55; (with_reducible refine (rvis_any _ _ hx0 hx1).mono ?_); rintro e w1 ⟨rfl, rfl⟩))
            go_ret
            exact ⟨rfl, rfl⟩
  ·
    cases hvi : visI x with
    | true =>
      have HR := Lib.hid (show nextI 4 x lo M L = 4 by simp [nextI, hvi])
      cases lo <;>
      · rw [HR.out]
        go_enter Tryd.func39, Tryd.ntmps39
        go_wp2_with (first | (go_at_call 43; (with_reducible refine (rblank_any _ _).mono ?_); rintro e w1 ⟨rfl, rfl⟩) | (go_at_call 33; (with_reducible refine (rnamed_any _ _ hx0 hx1).mono ?_); rintro e w1 ⟨rfl, rfl⟩) | (go_at_call 55; (with_reducible refine (rvis_any _ _ hx0 hx1).mono ?_); rintro e w1 ⟨rfl, rfl⟩))
        go_ret
        exact ⟨rfl, rfl⟩
    | false =>
      cases lo with
      | true =>
        cases hbl : blankI x with
        | true =>
          have HR := Lib.hid (show nextI 4 x true M L = 4 by simp [nextI, hvi, hbl])
          rw [HR.out]
          go_enter Tryd.func39, Tryd.ntmps39
          go_wp2_with (first | (go_at_call 43; (with_reducible refine (rblank_any _ _).mono ?_); rintro e w1 ⟨rfl, rfl⟩) | (go_at_call 33; (with_reducible refine (rnamed_any _ _ hx0 hx1).mono ?_); rintro e w1 ⟨rfl, rfl⟩) | (go_at_call 55; (with_reducible refine (rvis_any _ _ hx0 hx1).mono ?_); rintro e w1 ⟨rfl, rfl⟩))
          go_ret
          exact ⟨rfl, rfl⟩
        | false =>
          cases h13 : (x == 13) with
          | true =>
            have q32 : (x == 32) = false := by simp at h13 ⊢; omega
            have HR := Lib.hid (show nextI 4 x true M L = 6 by simp [nextI, hvi, hbl, h13, q32])
            rw [HR.out]
            go_enter Tryd.func39, Tryd.ntmps39
            go_wp2_with (first | (go_at_call 43; (with_reducible refine (rblank_any _ _).mono ?_); rintro e w1 ⟨rfl, rfl⟩) | (go_at_call 33; (with_reducible refine (rnamed_any _ _ hx0 hx1).mono ?_); rintro e w1 ⟨rfl, rfl⟩) | (go_at_call 55; (with_reducible refine (rvis_any _ _ hx0 hx1).mono ?_); rintro e w1 ⟨rfl, rfl⟩))
            go_ret
            exact ⟨rfl, rfl⟩
          | false =>
            cases h32 : (x == 32) with
            | true =>
              have HR := Lib.hid (show nextI 4 x true M L = 5 by simp [nextI, hvi, hbl, h13, h32])
              rw [HR.out]
              go_enter Tryd.func39, Tryd.ntmps39
              go_wp2_with (first | (go_at_call 43; (with_reducible refine (rblank_any _ _).mono ?_); rintro e w1 ⟨rfl, rfl⟩) | (go_at_call 33; (with_reducible refine (rnamed_any _ _ hx0 hx1).mono ?_); rintro e w1 ⟨rfl, rfl⟩) | (go_at_call 55; (with_reducible refine (rvis_any _ _ hx0 hx1).mono ?_); rintro e w1 ⟨rfl, rfl⟩))
              go_ret
              exact ⟨rfl, rfl⟩
            | false =>
              have HR := Lib.hid (show nextI 4 x true M L = 9 by simp [nextI, hvi, hbl, h13, h32])
              rw [HR.out]
              go_enter Tryd.func39, Tryd.ntmps39
              go_wp2_with (first | (go_at_call 43; (with_reducible refine (rblank_any _ _).mono ?_); rintro e w1 ⟨rfl, rfl⟩) | (go_at_call 33; (with_reducible refine (rnamed_any _ _ hx0 hx1).mono ?_); rintro e w1 ⟨rfl, rfl⟩) | (go_at_call 55; (with_reducible refine (rvis_any _ _ hx0 hx1).mono ?_); rintro e w1 ⟨rfl, rfl⟩))
              go_ret
              exact ⟨rfl, rfl⟩
      | false =>
        cases h13 : (x == 13) with
        | true =>
          have q32 : (x == 32) = false := by simp at h13 ⊢; omega
          have HR := Lib.hid (show nextI 4 x false M L = 6 by simp [nextI, hvi, h13, q32])
          rw [HR.out]
          go_enter Tryd.func39, Tryd.ntmps39
          go_wp2_with (first | (go_at_call 43; (with_reducible refine (rblank_any _ _).mono ?_); rintro e w1 ⟨rfl, rfl⟩) | (go_at_call 33; (with_reducible refine (rnamed_any _ _ hx0 hx1).mono ?_); rintro e w1 ⟨rfl, rfl⟩) | (go_at_call 55; (with_reducible refine (rvis_any _ _ hx0 hx1).mono ?_); rintro e w1 ⟨rfl, rfl⟩))
          go_ret
          exact ⟨rfl, rfl⟩
        | false =>
          cases h32 : (x == 32) with
          | true =>
            have HR := Lib.hid (show nextI 4 x false M L = 5 by simp [nextI, hvi, h13, h32])
            rw [HR.out]
            go_enter Tryd.func39, Tryd.ntmps39
            go_wp2_with (first | (go_at_call 43; (with_reducible refine (rblank_any _ _).mono ?_); rintro e w1 ⟨rfl, rfl⟩) | (go_at_call 33; (with_reducible refine (rnamed_any _ _ hx0 hx1).mono ?_); rintro e w1 ⟨rfl, rfl⟩) | (go_at_call 55; (with_reducible refine (rvis_any _ _ hx0 hx1).mono ?_); rintro e w1 ⟨rfl, rfl⟩))
            go_ret
            exact ⟨rfl, rfl⟩
          | false =>
            have HR := Lib.hid (show nextI 4 x false M L = 9 by simp [nextI, hvi, h13, h32])
            rw [HR.out]
            go_enter Tryd.func39, Tryd.ntmps39
            go_wp2_with (first | (go_at_call 43; (with_reducible refine (rblank_any _ _).mono ?_); rintro e w1 ⟨rfl, rfl⟩) | (go_at_call 33; (with_reducible refine (rnamed_any _ _ hx0 hx1).mono ?_); rintro e w1 ⟨rfl, rfl⟩) | (go_at_call 55; (with_reducible refine (rvis_any _ _ hx0 hx1).mono ?_); rintro e w1 ⟨rfl, rfl⟩))
            go_ret
            exact ⟨rfl, rfl⟩
  ·
    cases hvi : visI x with
    | true =>
      have HR := Lib.hid (show nextI 5 x lo M L = 4 by simp [nextI, hvi])
      cases lo <;>
      · rw [HR.out]
        go_enter Tryd.func39, Tryd.ntmps39
        go_wp2_with (first | (go_at_call 43; (with_reducible refine (rblank_any _ _).mono ?_); rintro e w1 ⟨rfl, rfl⟩) | (go_at_call 33; (with_reducible refine (rnamed_any _ _ hx0 hx1).mono ?_); rintro e w1 ⟨rfl, rfl⟩) | (go_at_call 55; (with_reducible refine (rvis_any _ _ hx0 hx1).mono ?_); rintro e w1 ⟨rfl, rfl⟩))
        go_ret
        exact ⟨rfl, rfl⟩
    | false =>
      cases lo with
      | true =>
        cases hbl : blankI x with
        | true =>
          have HR := Lib.hid (show nextI 5 x true M L = 4 by simp [nextI, hvi, hbl])
          rw [HR.out]
          go_enter Tryd.func39, Tryd.ntmps39
          go_wp2_with (first | (go_at_call 43; (with_reducible refine (rblank_any _ _).mono ?_); rintro e w1 ⟨rfl, rfl⟩) | (go_at_call 33; (with_reducible refine (rnamed_any _ _ hx0 hx1).mono ?_); rintro e w1 ⟨rfl, rfl⟩) | (go_at_call 55; (with_reducible refine (rvis_any _ _ hx0 hx1).mono ?_); rintro e w1 ⟨rfl, rfl⟩))
          go_ret
          exact ⟨rfl, rfl⟩
        | false =>
          cases h13 : (x == 13) with
          | true =>
            have q32 : (x == 32) = false := by simp at h13 ⊢; omega
            have HR := Lib.hid (show nextI 5 x true M L = 9 by simp [nextI, hvi, hbl, h13, q32])
            rw [HR.out]
            go_enter Tryd.func39, Tryd.ntmps39
            go_wp2_with (first | (go_at_call 43; (with_reducible refine (rblank_any _ _).mono ?_); rintro e w1 ⟨rfl, rfl⟩) | (go_at_call 33; (with_reducible refine (rnamed_any _ _ hx0 hx1).mono ?_); rintro e w1 ⟨rfl, rfl⟩) | (go_at_call 55; (with_reducible refine (rvis_any _ _ hx0 hx1).mono ?_); rintro e w1 ⟨rfl, rfl⟩))
            go_ret
            exact ⟨rfl, rfl⟩
          | false =>
            cases h32 : (x == 32) with
            | true =>
              have HR := Lib.hid (show nextI 5 x true M L = 5 by simp [nextI, hvi, hbl, h13, h32])
              rw [HR.out]
              go_enter Tryd.func39, Tryd.ntmps39
              go_wp2_with (first | (go_at_call 43; (with_reducible refine (rblank_any _ _).mono ?_); rintro e w1 ⟨rfl, rfl⟩) | (go_at_call 33; (with_reducible refine (rnamed_any _ _ hx0 hx1).mono ?_); rintro e w1 ⟨rfl, rfl⟩) | (go_at_call 55; (with_reducible refine (rvis_any _ _ hx0 hx1).mono ?_); rintro e w1 ⟨rfl, rfl⟩))
              go_ret
              exact ⟨rfl, rfl⟩
            | false =>
              have HR := Lib.hid (show nextI 5 x true M L = 9 by simp [nextI, hvi, hbl, h13, h32])
              rw [HR.out]
              go_enter Tryd.func39, Tryd.ntmps39
              go_wp2_with (first | (go_at_call 43; (with_reducible refine (rblank_any _ _).mono ?_); rintro e w1 ⟨rfl, rfl⟩) | (go_at_call 33; (with_reducible refine (rnamed_any _ _ hx0 hx1).mono ?_); rintro e w1 ⟨rfl, rfl⟩) | (go_at_call 55; (with_reducible refine (rvis_any _ _ hx0 hx1).mono ?_); rintro e w1 ⟨rfl, rfl⟩))
              go_ret
              exact ⟨rfl, rfl⟩
      | false =>
        cases h13 : (x == 13) with
        | true =>
          have q32 : (x == 32) = false := by simp at h13 ⊢; omega
          have HR := Lib.hid (show nextI 5 x false M L = 9 by simp [nextI, hvi, h13, q32])
          rw [HR.out]
          go_enter Tryd.func39, Tryd.ntmps39
          go_wp2_with (first | (go_at_call 43; (with_reducible refine (rblank_any _ _).mono ?_); rintro e w1 ⟨rfl, rfl⟩) | (go_at_call 33; (with_reducible refine (rnamed_any _ _ hx0 hx1).mono ?_); rintro e w1 ⟨rfl, rfl⟩) | (go_at_call 55; (with_reducible refine (rvis_any _ _ hx0 hx1).mono ?_); rintro e w1 ⟨rfl, rfl⟩))
          go_ret
          exact ⟨rfl, rfl⟩
        | false =>
          cases h32 : (x == 32) with
          | true =>
            have HR := Lib.hid (show nextI 5 x false M L = 5 by simp [nextI, hvi, h13, h32])
            rw [HR.out]
            go_enter Tryd.func39, Tryd.ntmps39
            go_wp2_with (first | (go_at_call 43; (with_reducible refine (rblank_any _ _).mono ?_); rintro e w1 ⟨rfl, rfl⟩) | (go_at_call 33; (with_reducible refine (rnamed_any _ _ hx0 hx1).mono ?_); rintro e w1 ⟨rfl, rfl⟩) | (go_at_call 55; (with_reducible refine (rvis_any _ _ hx0 hx1).mono ?_); rintro e w1 ⟨rfl, rfl⟩))
            go_ret
            exact ⟨rfl, rfl⟩
          | false =>
            have HR := Lib.hid (show nextI 5 x false M L = 9 by simp [nextI, hvi, h13, h32])
            rw [HR.out]
            go_enter Tryd.func39, Tryd.ntmps39
            go_wp2_with (first | (go_at_call 43; (with_reducible refine (rblank_any _ _).mono ?_); rintro e w1 ⟨rfl, rfl⟩) | (go_at_call 33; (with_reducible refine (rnamed_any _ _ hx0 hx1).mono ?_); rintro e w1 ⟨rfl, rfl⟩) | (go_at_call 55; (with_reducible refine (rvis_any _ _ hx0 hx1).mono ?_); rintro e w1 ⟨rfl, rfl⟩))
            go_ret
            exact ⟨rfl, rfl⟩
  ·
    cases h10 : (x == 10) with
    | true =>
      have HR := Lib.hid (show nextI 6 x lo M L = 0 by simp [nextI, h10])
      cases lo <;>
      · rw [HR.out]
        go_enter Tryd.func39, Tryd.ntmps39
        go_wp2_with (first | (go_at_call 43; (with_reducible refine (rblank_any _ _).mono ?_); rintro e w1 ⟨rfl, rfl⟩) | (go_at_call 33; (with_reducible refine (rnamed_any _ _ hx0 hx1).mono ?_); rintro e w1 ⟨rfl, rfl⟩) | (go_at_call 55; (with_reducible refine (rvis_any _ _ hx0 hx1).mono ?_); rintro e w1 ⟨rfl, rfl⟩))
        go_ret
        exact ⟨rfl, rfl⟩
    | false =>
      have HR := Lib.hid (show nextI 6 x lo M L = 9 by simp [nextI, h10])
      cases lo <;>
      · rw [HR.out]
        go_enter Tryd.func39, Tryd.ntmps39
        go_wp2_with (first | (go_at_call 43; (with_reducible refine (rblank_any _ _).mono ?_); rintro e w1 ⟨rfl, rfl⟩) | (go_at_call 33; (with_reducible refine (rnamed_any _ _ hx0 hx1).mono ?_); rintro e w1 ⟨rfl, rfl⟩) | (go_at_call 55; (with_reducible refine (rvis_any _ _ hx0 hx1).mono ?_); rintro e w1 ⟨rfl, rfl⟩))
        go_ret
        exact ⟨rfl, rfl⟩
  ·
    cases h10 : (x == 10) with
    | true =>
      have HR := Lib.hid (show nextI 7 x lo M L = 8 by simp [nextI, h10])
      cases lo <;>
      · rw [HR.out]
        go_enter Tryd.func39, Tryd.ntmps39
        go_wp2_with (first | (go_at_call 43; (with_reducible refine (rblank_any _ _).mono ?_); rintro e w1 ⟨rfl, rfl⟩) | (go_at_call 33; (with_reducible refine (rnamed_any _ _ hx0 hx1).mono ?_); rintro e w1 ⟨rfl, rfl⟩) | (go_at_call 55; (with_reducible refine (rvis_any _ _ hx0 hx1).mono ?_); rintro e w1 ⟨rfl, rfl⟩))
        go_ret
        exact ⟨rfl, rfl⟩
    | false =>
      have HR := Lib.hid (show nextI 7 x lo M L = 9 by simp [nextI, h10])
      cases lo <;>
      · rw [HR.out]
        go_enter Tryd.func39, Tryd.ntmps39
        go_wp2_with (first | (go_at_call 43; (with_reducible refine (rblank_any _ _).mono ?_); rintro e w1 ⟨rfl, rfl⟩) | (go_at_call 33; (with_reducible refine (rnamed_any _ _ hx0 hx1).mono ?_); rintro e w1 ⟨rfl, rfl⟩) | (go_at_call 55; (with_reducible refine (rvis_any _ _ hx0 hx1).mono ?_); rintro e w1 ⟨rfl, rfl⟩))
        go_ret
        exact ⟨rfl, rfl⟩

/-- The reference's result. -/
def runI (l : List UInt8) (lo : Bool) : Scd := runR lo 0 0 0 0 l
theorem runR_drop (lo : Bool) (st nm ln i : Nat) (l : List UInt8) (h : i < l.length) : runR lo st nm ln i (l.drop i) = if nextR st l[i] lo nm ln = 9 then ⟨-1, 0, i⟩ else if nextR st l[i] lo nm ln = 8 then ⟨(i : Int) + 1, 0, -1⟩ else runR lo (nextR st l[i] lo nm ln) (nmR st (nextR st l[i] lo nm ln) nm) (lnR st (nextR st l[i] lo nm ln) ln) (i + 1) (l.drop (i + 1)) := by
  rw [List.drop_eq_getElem_cons h, runR]
theorem nextR_le (st : Nat) (c : UInt8) (lo : Bool) (nm ln : Nat) : nextR st c lo nm ln ≤ 9 := by
  unfold nextR
  repeat' split
  all_goals omega
def ScdV (r : Scd) : Value := .tuple #[.int .i64 r.e, .int .i64 r.n, .int .i64 r.a]
set_option maxRecDepth 100000 in
set_option maxHeartbeats 1000000 in
theorem rscan_any (A : Option Addr) (n c : Nat) (l : List UInt8) (lo : Bool) (W : World) (h : RB W A n c l) (hn : n ≤ 1000000) :
    Calls Tryd.prog 23 #[.slice A n c, .bool lo] W fun e w' => e = .returned (ScdV (scanR l lo)) ∧ Below W.heap.size W w' := by
  rw [scanR_ref]
  have HP := Lib.hid h
  have HL := Lib.hid h.len
  have hn0 : (n : Int) ≤ 1000000 := by omega
  clear h hn
  go_enter Tryd.func23, Tryd.ntmps23
  go_wp2_with fail
  go_loopw [10, 7, 8, 9] (fun ii ss mm ll wr => ∃ (i st nm ln : Nat), (i : Int) ≤ n ∧ ii = .int .i64 i ∧ ss = .int .i64 (st : Int) ∧ mm = .int .i64 (nm : Int) ∧ ll = .int .i64 (ln : Int) ∧ (st : Int) ≤ 7 ∧ (nm : Int) ≤ i ∧ (ln : Int) ≤ i ∧ Hid (runR lo 0 0 0 0 l = runR lo st nm ln i (l.drop i)) ∧ wr = W) (fun ii _ _ _ _ => n - (intOf ii).toNat)
  case atStart => exact ⟨0, 0, 0, 0, by omega, rfl, rfl, rfl, rfl, by omega, by omega, by omega, Lib.hid rfl, rfl⟩
  case round =>
    obtain ⟨i, st, nm, ln, hi, rfl, rfl, rfl, rfl, hst, hnm, hln, HR, rfl⟩ := hrel
    have hi0 : (0 : Int) ≤ i := by omega
    by_cases hlt : (i : Int) < n
    · have hi1 : i < l.length := by rw [HL.out]; omega
      obtain ⟨b, o, rfl, hat⟩ := HP.out.at (by omega)
      have hA := hat i hi1
      have hrun := HR.out.trans (runR_drop lo st nm ln i l hi1)
      have hx := nextI_R st l[i] lo nm ln
      have hle := nextR_le st l[i] lo nm ln
      have hy2 := (l[i]).toNat_lt
      generalize hk : nextR st l[i] lo nm ln = k at *
      generalize (l[i]).toNat = y at *
      obtain ⟨x, hx9⟩ : ∃ x : Int, ((y : Nat) : Int) = x := ⟨_, rfl⟩
      rw [hx9] at hx hA
      have C39 := Lib.hid (next_any st (by omega) x (by omega) (by omega) lo nm ln wr)
      rw [← hx] at C39
      have HRUN := Lib.hid hrun
      obtain ⟨S, hS⟩ : ∃ S : Int, (st : Int) = S := ⟨_, rfl⟩
      obtain ⟨K, hK⟩ : ∃ K : Int, (k : Int) = K := ⟨_, rfl⟩
      have HS := Lib.hid hS
      have HK := Lib.hid hK
      have hle2 : K ≤ 9 := by omega
      have hkk : K = 9 ↔ k = 9 := by omega
      have hk8 : K = 8 ↔ k = 8 := by omega
      have hk1 : K = 1 ↔ k = 1 := by omega
      have hs0 : S = 0 ↔ st = 0 := by omega
      have hK0 : 0 ≤ K := by omega
      rw [hS, hK] at C39
      rw [hS]
      have hst2 : S ≤ 7 := by omega
      clear hrun hx hle hy2 hk hat hx9 hS hK hst
      by_cases h9 : K = 9
      · have HE := Lib.hid (HRUN.out.trans (if_pos (hkk.1 h9)))
        subst h9
        clear hkk hk8 hk1 hs0 hK0 hle2
        go_wp2_with (go_at_call 39; (with_reducible refine C39.out.mono ?_); rintro e w1 ⟨rfl, rfl⟩)
        go_ret3
        exact ⟨by rw [HE.out]; rfl, Below.refl _ _⟩
      · by_cases h8 : K = 8
        · have HE := Lib.hid (HRUN.out.trans ((if_neg fun e => h9 (hkk.2 e)).trans (if_pos (hk8.1 h8))))
          subst h8
          clear hkk hk8 hk1 hs0 hK0 hle2 h9
          go_wp2_with (go_at_call 39; (with_reducible refine C39.out.mono ?_); rintro e w1 ⟨rfl, rfl⟩)
          go_ret3
          exact ⟨by rw [HE.out]; rfl, Below.refl _ _⟩
        · have HE := Lib.hid (HRUN.out.trans ((if_neg fun e => h9 (hkk.2 e)).trans (if_neg fun e => h8 (hk8.2 e))))
          have q9 : (K == 9) = false := by simpa using h9
          have q8 : (K == 8) = false := by simpa using h8
          have hk7 : K ≤ 7 := by omega
          have hnm0 : 0 ≤ (nm : Int) := by omega
          have hln0 : 0 ≤ (ln : Int) := by omega
          by_cases h1 : K = 1
          · by_cases h0 : S = 0
            · have HE2 : Hid (runR lo 0 0 0 0 l = runR lo k 1 (ln + 1) (i + 1) (l.drop (i + 1))) := Lib.hid (HE.out.trans (by
                have a1 := hk1.1 h1
                have a2 := hs0.1 h0
                unfold nmR lnR
                rw [if_pos a1, if_pos a2, if_pos ⟨a1, a2⟩]))
              subst h1
              subst h0
              clear hkk hk8 hk1 hs0 hK0 hle2 h9 h8
              go_wp2_with (go_at_call 39; (with_reducible refine C39.out.mono ?_); rintro e w1 ⟨rfl, rfl⟩)
              go_roundw
              case rel => exact ⟨i + 1, k, 1, ln + 1, by omega, by go_num, by rw [HK.out], rfl, by go_num, by have := HK.out; omega, by omega, by omega, HE2, by first | rfl | trivial⟩
              case measure => simp [intOf]; omega
            · have HE2 : Hid (runR lo 0 0 0 0 l = runR lo k (nm + 1) ln (i + 1) (l.drop (i + 1))) := Lib.hid (HE.out.trans (by
                have a1 := hk1.1 h1
                have a2 : ¬ st = 0 := fun e => h0 (hs0.2 e)
                unfold nmR lnR
                rw [if_pos a1, if_neg a2, if_neg (fun e => a2 e.2)]))
              have q0 : (S == 0) = false := by simpa using h0
              subst h1
              clear hkk hk8 hk1 hs0 hK0 hle2 h9 h8 h0
              go_wp2_with (go_at_call 39; (with_reducible refine C39.out.mono ?_); rintro e w1 ⟨rfl, rfl⟩)
              go_roundw
              case rel => exact ⟨i + 1, k, nm + 1, ln, by omega, by go_num, by rw [HK.out], by go_num, rfl, by have := HK.out; omega, by omega, by omega, HE2, by first | rfl | trivial⟩
              case measure => simp [intOf]; omega
          · have HE2 : Hid (runR lo 0 0 0 0 l = runR lo k nm ln (i + 1) (l.drop (i + 1))) := Lib.hid (HE.out.trans (by
                have a1 : ¬ k = 1 := fun e => h1 (hk1.2 e)
                unfold nmR lnR
                rw [if_neg a1, if_neg (fun e => a1 e.1)]))
            have q1 : (K == 1) = false := by simpa using h1
            clear hkk hk8 hk1 hs0 hK0 hle2 h9 h8 h1
            go_wp2_with (go_at_call 39; (with_reducible refine C39.out.mono ?_); rintro e w1 ⟨rfl, rfl⟩)
            go_roundw
            case rel => exact ⟨i + 1, k, nm, ln, by omega, by go_num, by rw [HK.out], rfl, rfl, by have := HK.out; omega, by omega, by omega, HE2, by first | rfl | trivial⟩
            case measure => simp [intOf]; omega
    · have HEQ : Hid (runR lo 0 0 0 0 l = ⟨-1, needsR st lo, -1⟩) := Lib.hid (HR.out.trans (by rw [List.drop_of_length_le (by rw [HL.out]; omega)]; rfl))
      have C40 := Lib.hid (rneeds_any st (by omega) lo wr)
      generalize needsR st lo = nd at *
      go_wp2_with (go_at_call 40; (with_reducible refine C40.out.mono ?_); rintro e w1 ⟨rfl, hb⟩; have HB := Lib.hid hb; clear hb)
      go_ret3
      exact ⟨by rw [HEQ.out]; rfl, HB.out⟩
end Go.Proofs.YtkalllenggmgoaaDoor

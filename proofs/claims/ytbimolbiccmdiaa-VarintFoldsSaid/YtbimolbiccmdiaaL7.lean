/- The walk of VarintFolds. -/
import Derived.Test.YtbimolbiccmdiaaKn
namespace Go.Proofs.Ytbimolbiccmdiaa
open Go.RowKit

theorem foldV_in (v : Int) (h : -17179869184 ≤ v) (h2 : v < 17179869184) : ∃ a : Int, foldV v = .tuple #[.int .i64 a, .int .i64 0] ∧ unfoldV a = .tuple #[.int .i64 v, .int .i64 0] := by
  by_cases hs : v < 0
  · refine ⟨-2 * v - 1, by unfold foldV; rw [if_neg (by omega), if_pos hs], ?_⟩
    unfold unfoldV
    rw [if_neg (by omega), if_pos (by omega), show -((-2 * v - 1) / 2) - 1 = v by omega]
  · refine ⟨2 * v, by unfold foldV; rw [if_neg (by omega), if_neg hs], ?_⟩
    unfold unfoldV
    rw [if_neg (by omega), if_neg (by omega), show 2 * v / 2 = v by omega]
theorem foldV_out (v : Int) (h : v < -17179869184 ∨ 17179869184 ≤ v) : foldV v = .tuple #[.int .i64 0, .int .i64 3] := by unfold foldV; rw [if_pos h]
theorem unfoldV_in (v : Int) (h : 0 ≤ v) (h2 : v < 34359738368) : ∃ c : Int, unfoldV v = .tuple #[.int .i64 c, .int .i64 0] ∧ foldV c = .tuple #[.int .i64 v, .int .i64 0] := by
  by_cases hs : v % 2 = 1
  · refine ⟨-(v / 2) - 1, by unfold unfoldV; rw [if_neg (by omega), if_pos hs], ?_⟩
    unfold foldV
    rw [if_neg (by omega), if_pos (by omega), show -2 * (-(v / 2) - 1) - 1 = v by omega]
  · refine ⟨v / 2, by unfold unfoldV; rw [if_neg (by omega), if_neg hs], ?_⟩
    unfold foldV
    rw [if_neg (by omega), if_neg (by omega), show 2 * (v / 2) = v by omega]
theorem unfoldV_out (v : Int) (h : v < 0 ∨ 34359738368 ≤ v) : unfoldV v = .tuple #[.int .i64 0, .int .i64 3] := by unfold unfoldV; rw [if_pos h]

set_option maxRecDepth 100000 in
set_option maxHeartbeats 1000000 in
theorem folds_law (v : Int) (w : World) (_ : (Lit.int .i64 v).wf = true) : Calls Try.prog 7 #[.int .i64 v] w fun e w' => e = .returned (.bool true) ∧ Below w.heap.size w w' := by
  have f1 : ∃ a e : Int, foldV v = .tuple #[.int .i64 a, .int .i64 e] ∧ (e = 0 ∧ unfoldV a = .tuple #[.int .i64 v, .int .i64 0] ∨ e = 3) := by
    by_cases h : v < -17179869184 ∨ 17179869184 ≤ v
    · exact ⟨0, 3, foldV_out v h, .inr rfl⟩
    · obtain ⟨a, h1, h2⟩ := foldV_in v (by omega) (by omega)
      exact ⟨a, 0, h1, .inl ⟨rfl, h2⟩⟩
  have u1 : ∃ a e : Int, unfoldV v = .tuple #[.int .i64 a, .int .i64 e] ∧ (e = 0 ∧ foldV a = .tuple #[.int .i64 v, .int .i64 0] ∨ e = 3) := by
    by_cases h : v < 0 ∨ 34359738368 ≤ v
    · exact ⟨0, 3, unfoldV_out v h, .inr rfl⟩
    · obtain ⟨a, h1, h2⟩ := unfoldV_in v (by omega) (by omega)
      exact ⟨a, 0, h1, .inl ⟨rfl, h2⟩⟩
  obtain ⟨a, e, hf, hf2⟩ := f1
  obtain ⟨c, g, hu, hu2⟩ := u1
  have c1 := fun W => fold_any v W
  have c2 := fun W => rfold_any v W
  have c3 := fun W => unfold_any v W
  have c4 := fun W => runfold_any v W
  rw [hf] at c1 c2
  rw [hu] at c3 c4
  have C1 := Lib.hid c1
  have C2 := Lib.hid c2
  have C3 := Lib.hid c3
  have C4 := Lib.hid c4
  clear c1 c2 c3 c4 hf hu
  rcases hf2 with ⟨rfl, hf2⟩ | rfl
  · have c5 := fun W => unfold_any a W
    rw [hf2] at c5
    have C5 := Lib.hid c5
    clear c5 hf2
    rcases hu2 with ⟨rfl, hu2⟩ | rfl
    · have c6 := fun W => fold_any c W
      rw [hu2] at c6
      have C6 := Lib.hid c6
      clear c6 hu2
      go_enter Try.func7, Try.ntmps7
      go_wp2_with (first | (go_at_call 20; (first | (with_reducible refine (C1.out _).mono ?_) | (with_reducible refine (C6.out _).mono ?_)); rintro e w' ⟨rfl, rfl⟩) | (go_at_call 21; (with_reducible refine (C2.out _).mono ?_); rintro e w' ⟨rfl, rfl⟩) | (go_at_call 22; (first | (with_reducible refine (C3.out _).mono ?_) | (with_reducible refine (C5.out _).mono ?_)); rintro e w' ⟨rfl, rfl⟩) | (go_at_call 23; (with_reducible refine (C4.out _).mono ?_); rintro e w' ⟨rfl, rfl⟩) | (go_at_call 10; (with_reducible refine (known_any _).mono ?_); rintro e w' ⟨rfl, b5⟩; have B5 := Lib.hid b5; clear b5))
      go_ret
      exact ⟨rfl, B5.out⟩
    · go_enter Try.func7, Try.ntmps7
      go_wp2_with (first | (go_at_call 20; (with_reducible refine (C1.out _).mono ?_); rintro e w' ⟨rfl, rfl⟩) | (go_at_call 21; (with_reducible refine (C2.out _).mono ?_); rintro e w' ⟨rfl, rfl⟩) | (go_at_call 22; (first | (with_reducible refine (C3.out _).mono ?_) | (with_reducible refine (C5.out _).mono ?_)); rintro e w' ⟨rfl, rfl⟩) | (go_at_call 23; (with_reducible refine (C4.out _).mono ?_); rintro e w' ⟨rfl, rfl⟩) | (go_at_call 10; (with_reducible refine (known_any _).mono ?_); rintro e w' ⟨rfl, b5⟩; have B5 := Lib.hid b5; clear b5))
      go_ret
      exact ⟨rfl, B5.out⟩
  · rcases hu2 with ⟨rfl, hu2⟩ | rfl
    · have c6 := fun W => fold_any c W
      rw [hu2] at c6
      have C6 := Lib.hid c6
      clear c6 hu2
      go_enter Try.func7, Try.ntmps7
      go_wp2_with (first | (go_at_call 20; (first | (with_reducible refine (C1.out _).mono ?_) | (with_reducible refine (C6.out _).mono ?_)); rintro e w' ⟨rfl, rfl⟩) | (go_at_call 21; (with_reducible refine (C2.out _).mono ?_); rintro e w' ⟨rfl, rfl⟩) | (go_at_call 22; (with_reducible refine (C3.out _).mono ?_); rintro e w' ⟨rfl, rfl⟩) | (go_at_call 23; (with_reducible refine (C4.out _).mono ?_); rintro e w' ⟨rfl, rfl⟩) | (go_at_call 10; (with_reducible refine (known_any _).mono ?_); rintro e w' ⟨rfl, b5⟩; have B5 := Lib.hid b5; clear b5))
      go_ret
      exact ⟨rfl, B5.out⟩
    · go_enter Try.func7, Try.ntmps7
      go_wp2_with (first | (go_at_call 20; (with_reducible refine (C1.out _).mono ?_); rintro e w' ⟨rfl, rfl⟩) | (go_at_call 21; (with_reducible refine (C2.out _).mono ?_); rintro e w' ⟨rfl, rfl⟩) | (go_at_call 22; (with_reducible refine (C3.out _).mono ?_); rintro e w' ⟨rfl, rfl⟩) | (go_at_call 23; (with_reducible refine (C4.out _).mono ?_); rintro e w' ⟨rfl, rfl⟩) | (go_at_call 10; (with_reducible refine (known_any _).mono ?_); rintro e w' ⟨rfl, b5⟩; have B5 := Lib.hid b5; clear b5))
      go_ret
      exact ⟨rfl, B5.out⟩
end Go.Proofs.Ytbimolbiccmdiaa

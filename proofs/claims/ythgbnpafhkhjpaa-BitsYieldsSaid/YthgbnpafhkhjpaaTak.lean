/- The contracts of (*Reader).take and Take. -/
import Derived.Test.YthgbnpafhkhjpaaGe2
namespace Go.Proofs.Ythgbnpafhkhjpaa
open Go.RowKit
set_option linter.unusedVariables false
set_option linter.unusedSimpArgs false

/-- The conditions of take, and how many bits it wants. -/
def takeC (k a b pl : Int) : List (Bool × Int) := [(decide (a ≤ k) && decide (k ≤ b), 2), (pl.tmod 8 == 0, 8)]
def takeN (k : Int) : Int := 8 * min k 8388608

set_option maxRecDepth 100000 in
set_option maxHeartbeats 1000000 in
theorem take_walk (p : Option Addr) (k a bb pl E : Int) (n : Nat) (xs : List Value) (P : World → Prop) (w : World)
    (h23 : ∀ W, Below w.heap.size w W → Calls Try.prog 23 #[.pointer p] W fun e w' => e = .returned (.int .i64 pl) ∧ W = w')
    (h39 : ∀ b W cnt, Below w.heap.size w W → CS W b 0 (takeC k a bb pl) → (0 ≤ k → cnt = takeN k) → Calls Try.prog 39 #[.pointer p, .int .i64 cnt, .slice (some ⟨b, 0, none⟩) 2 2] W fun e w' => ∃ v' c, e = .returned (.tuple #[.agg #[v', .int .i64 c], .int .i64 E]) ∧ w'.ownsRow w.heap.size 5 1 v' n xs ∧ P w' ∧ W.heap.size ≤ w'.heap.size) :
    Calls Try.prog 44 #[.pointer p, .int .i64 k, .int .i64 a, .int .i64 bb] w fun e w' => ∃ v', e = .returned (.tuple #[v', .int .i64 E]) ∧ w'.ownsRow w.heap.size 5 1 v' n xs ∧ ∃ w1, P w1 ∧ w.heap.size ≤ w1.heap.size ∧ Below w.heap.size w1 w' := by
  have hb1 : Below w.heap.size w ((w.alloc (.cells #[.bool (pl.tmod 8 == 0), .int .i64 8] 72)).alloc (.cells #[.bool (decide (a ≤ k) && decide (k ≤ bb)), .int .i64 2, .bool (pl.tmod 8 == 0), .int .i64 8] 72)) := ((Below.refl _ w).alloc (Nat.le_refl _) _).alloc (by simp) _
  have C39 := Lib.hid (fun cnt h => h39 (w.heap.size + 1) _ cnt hb1 (by unfold takeC; exact cs_at2 (by simp)) h)
  have C66 := Lib.hid (raligned_any p pl w h23)
  have HS := Lib.hid hb1.size
  have key : ∀ cnt : Int, (0 ≤ k → cnt = takeN k) → Calls Try.prog 39 #[.pointer p, .int .i64 cnt, .slice (some ⟨w.heap.size + 1, 0, none⟩) 2 2] ((w.alloc (.cells #[.bool (pl.tmod 8 == 0), .int .i64 8] 72)).alloc (.cells #[.bool (decide (a ≤ k) && decide (k ≤ bb)), .int .i64 2, .bool (pl.tmod 8 == 0), .int .i64 8] 72)) fun e w' => ∃ A cap c, e = .returned (.tuple #[.agg #[.slice A n cap, .int .i64 c], .int .i64 E]) ∧ w'.ownsRow w.heap.size 5 1 (.slice A n cap) n xs ∧ P w' ∧ w.heap.size ≤ w'.heap.size := by
    intro cnt h
    refine (C39.out cnt h).mono ?_
    rintro e w' ⟨v', c, rfl, h1, h2, h3⟩
    obtain ⟨A, cap, rfl, -⟩ := own_form h1
    exact ⟨A, cap, c, rfl, h1, h2, Nat.le_trans HS.out h3⟩
  have KEY := Lib.hid key
  clear h39 hb1 h23 key C39
  rcases (show k < 0 ∨ (0 ≤ k ∧ k ≤ 8388608) ∨ 8388608 < k by omega) with hk | hk | hk
  · have HK := Lib.hid hk
    have hq : min k 8388608 = k := by omega
    go_enter Try.func44, Try.ntmps44
    go_wp2_with (first
      | (go_at_call 37; (with_reducible refine (in_any _ _ _ _).mono ?_); rintro e w1 ⟨rfl, rfl⟩)
      | (go_at_call 66; (with_reducible refine C66.out.mono ?_); rintro e w1 ⟨rfl, rfl⟩)
      | (go_at_call 39; (refine (KEY.out _ ?_).mono ?_); (· intro h; exact absurd h (by omega)); rintro e w1 ⟨A1, cap1, c1, rfl, ho, hP, hsz1⟩; have HO := Lib.hid ho; have HP := Lib.hid hP; have HSZ := Lib.hid hsz1; clear hP hsz1 ho))
    go_ret2
    exact ⟨_, rfl, own_alloc HO.out, w1, HP.out, HSZ.out, (Below.refl _ w1).alloc HSZ.out _⟩
  · obtain ⟨hk0, hk1⟩ := hk
    have HK := Lib.hid (show 8 * k = takeN k by unfold takeN; omega)
    go_enter Try.func44, Try.ntmps44
    go_wp2_with (first
      | (go_at_call 37; (with_reducible refine (in_any _ _ _ _).mono ?_); rintro e w1 ⟨rfl, rfl⟩)
      | (go_at_call 66; (with_reducible refine C66.out.mono ?_); rintro e w1 ⟨rfl, rfl⟩)
      | (go_at_call 39; go_loud (refine (KEY.out _ ?_).mono ?_); (· intro _; first | exact HK.out | (rw [← HK.out]; first | rfl | omega | (split <;> omega))); rintro e w1 ⟨A1, cap1, c1, rfl, ho, hP, hsz1⟩; have HO := Lib.hid ho; have HP := Lib.hid hP; have HSZ := Lib.hid hsz1; clear hP hsz1 ho))
    all_goals
      go_ret2
      exact ⟨_, rfl, own_alloc HO.out, w1, HP.out, HSZ.out, (Below.refl _ w1).alloc HSZ.out _⟩
  · have HK := Lib.hid (show (67108864 : Int) = takeN k by unfold takeN; omega)
    have hk3 : (0 : Int) ≤ k := by omega
    go_enter Try.func44, Try.ntmps44
    go_wp2_with (first
      | (go_at_call 37; (with_reducible refine (in_any _ _ _ _).mono ?_); rintro e w1 ⟨rfl, rfl⟩)
      | (go_at_call 66; (with_reducible refine C66.out.mono ?_); rintro e w1 ⟨rfl, rfl⟩)
      | (go_at_call 39; go_loud (refine (KEY.out _ ?_).mono ?_); (· intro _; first | exact HK.out | (rw [← HK.out]; first | rfl | omega | (split <;> omega))); rintro e w1 ⟨A1, cap1, c1, rfl, ho, hP, hsz1⟩; have HO := Lib.hid ho; have HP := Lib.hid hP; have HSZ := Lib.hid hsz1; clear hP hsz1 ho))
    all_goals
      go_ret2
      exact ⟨_, rfl, own_alloc HO.out, w1, HP.out, HSZ.out, (Below.refl _ w1).alloc HSZ.out _⟩
end Go.Proofs.Ythgbnpafhkhjpaa

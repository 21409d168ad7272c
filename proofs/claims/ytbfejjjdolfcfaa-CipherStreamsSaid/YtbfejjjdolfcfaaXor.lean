/- Contracts of slices.Clone, (place).check, (place).xor, cipher.Xor. -/
import Derived.Test.YtbfejjjdolfcfaaRep
import Derived.Lib.SliceRun
namespace Go.Proofs.Ytbfejjjdolfcfaa
open Go.RowKit
set_option linter.unusedVariables false
set_option linter.unusedSimpArgs false

/-! slices.Clone of bytes -/
set_option maxRecDepth 100000 in
theorem clone_any (A : Option Addr) (n c : Nat) (xs : List Value) (w : World) (hn : n ≤ 60000) (hs : Holds w A n xs) (h1 : ∀ u ∈ xs, u.oneCell' = true) (hc : A = none → c = 0) :
    Calls Try.prog 36 #[.slice A n c] w fun e w' => Rowed w 5 n xs (fun v => v) e w' := by
  cases A with
  | none =>
    obtain ⟨h0, _⟩ := hs.2.1 rfl
    subst h0
    obtain rfl : xs = [] := List.eq_nil_of_length_eq_zero (by simpa using hs.1)
    obtain rfl := hc rfl
    have hnil : ∀ W : World, (binOp .eql 30 (.slice none 0 0) (.slice none 0 0)).run Try.prog W = .ok (.bool true) W := fun W => by kernel_rfl
    clear hs h1 hc
    go_enter Try.func36, Try.ntmps36
    go_wp2_with fail
    go_ret
    exact ⟨_, rfl, World.ownsRow_nil _ _ 5 1, Below.refl _ _⟩
  | some a =>
    have HS := Lib.hid hs
    have H1 := Lib.hid h1
    have HN := Lib.hid hn
    have hnil := Lib.run_eql_slice_nil (P := Try.prog) w 30 5 (some a) n c 0 0 Try.underlying30
    simp at hnil
    clear hs h1 hn hc
    go_enter Try.func36, Try.ntmps36
    go_wp2_with (at_builtin; go_must (refine wpList_app_own (base := w.heap.size) (n := 0) (m := n) (xs := []) (news := xs) rfl (.tmp 5) (.tmp 6) 30 rfl el30 rfl (own_none00 w 5) rfl (HS.out.alloc _) H1.out (by have := HN.out; unfold maxLen; omega) (by have := HN.out; omega) (by simp) ?_; intro v1 w1 hown hg _; rw [Nat.zero_add, List.nil_append] at hown; have HO := Lib.hid hown; have HB := Lib.hid (below_own ((Below.refl w.heap.size w).alloc (Nat.le_refl _) _) (by simp) (own_none00 w 5) hg); clear hown hg))
    go_ret
    exact ⟨v1, rfl, HO.out, HB.out⟩

/-! check -/
/-- The error of a place and of a number of bytes from it on. -/
def errP (key at' n : Int) : Int := if isW key = false ∨ at' < 0 then 2 else if 274877906944 - n < at' then 3 else 0
set_option maxRecDepth 100000 in
theorem check_any (key a n : Int) (w : World) (hn : 0 ≤ n) (hn2 : n ≤ 60000) : Calls Try.prog 30 #[.agg #[.int .i64 key, .int .i64 a], .int .i64 n] w fun e w' => e = .returned (.int .i64 (errP key a n)) ∧ Below w.heap.size w w' := by
  have cw1 := fun W => word_any key W
  cases hk : isW key with
  | false =>
    rw [hk] at cw1
    have C1 := Lib.hid cw1
    have he : errP key a n = 2 := by unfold errP; rw [if_pos (.inl hk)]
    rw [he]
    clear cw1 he hk
    go_enter Try.func30, Try.ntmps30
    go_wp2_with (go_at_call 27; (with_reducible refine (C1.out _).mono ?_); rintro e w1 ⟨rfl, rfl⟩)
    go_ret
    exact ⟨rfl, (Below.refl _ w).alloc (Nat.le_refl _) _⟩
  | true =>
    rw [hk] at cw1
    have C1 := Lib.hid cw1
    by_cases h0 : a < 0
    · have he : errP key a n = 2 := by unfold errP; rw [if_pos (.inr h0)]
      rw [he]
      clear cw1 he hk
      go_enter Try.func30, Try.ntmps30
      go_wp2_with (go_at_call 27; (with_reducible refine (C1.out _).mono ?_); rintro e w1 ⟨rfl, rfl⟩)
      go_ret
      exact ⟨rfl, (Below.refl _ w).alloc (Nat.le_refl _) _⟩
    · by_cases h1 : 274877906944 - n < a
      · have he : errP key a n = 3 := by unfold errP; rw [if_neg (by rw [hk]; simp; omega), if_pos h1]
        rw [he]
        clear cw1 he hk
        go_enter Try.func30, Try.ntmps30
        go_wp2_with (go_at_call 27; (with_reducible refine (C1.out _).mono ?_); rintro e w1 ⟨rfl, rfl⟩)
        go_ret
        exact ⟨rfl, (Below.refl _ w).alloc (Nat.le_refl _) _⟩
      · have he : errP key a n = 0 := by unfold errP; rw [if_neg (by rw [hk]; simp; omega), if_neg h1]
        rw [he]
        clear cw1 he hk
        go_enter Try.func30, Try.ntmps30
        go_wp2_with (go_at_call 27; (with_reducible refine (C1.out _).mono ?_); rintro e w1 ⟨rfl, rfl⟩)
        go_ret
        exact ⟨rfl, (Below.refl _ w).alloc (Nat.le_refl _) _⟩
end Go.Proofs.Ytbfejjjdolfcfaa

/- The law's fits. -/
import Derived.Test.YthkpmbgclllnjaaNb
namespace Go.Proofs.Ythkpmbgclllnjaa
open Go.RowKit
set_option linter.unusedVariables false
set_option linter.unusedSimpArgs false

def FitsE (n : Nat) (f : Nat → ActV) (e : Ending) : Prop := ∃ t : Bool, e = .returned (.bool t) ∧ (t = true → n ≤ 60 ∧ ∀ j, j < n → (f j).m ≤ 100)
set_option maxRecDepth 100000 in
set_option maxHeartbeats 1000000 in
theorem fits_any (A : Option Addr) (n c : Nat) (f : Nat → ActV) (w : World) (hs : ActS w A n f) :
    Calls Try.prog 15 #[.slice A n c] w fun e w' => FitsE n f e ∧ w = w' := by
  have hn := hs.1
  unfold maxLen at hn
  have hn2 : (n : Int) ≤ 9223372036854775807 := by omega
  have HS := Lib.hid hs
  clear hs hn
  go_enter Try.func15, Try.ntmps15
  go_wp2_with fail
  go_loop [3] (fun ii => ∃ i : Nat, (i : Int) ≤ n ∧ ii = .int .i64 i ∧ Hid (∀ j, j < i → (f j).m ≤ 100)) (fun ii => n - (intOf ii).toNat)
  case atStart => exact ⟨0, by omega, rfl, Lib.hid (fun j h => absurd h (Nat.not_lt_zero j))⟩
  case round =>
    obtain ⟨i, hi, rfl, HJ⟩ := hrel
    have hi0 : (0 : Int) ≤ i := by omega
    by_cases hlt : (i : Int) < n
    · obtain ⟨b, o, rfl, -, ⟨k1, k2, k3, k4⟩, -⟩ := HS.out.2 i (by omega)
      clear k1 k3 k4
      by_cases h2 : 100 < ((f i).m : Int)
      · have q2 : decide (100 < ((f i).m : Int)) = true := by simpa using h2
        clear h2
        go_wp2_with fail
        go_ret
        exact ⟨⟨false, rfl, fun h => by cases h⟩, rfl⟩
      · have q2 : decide (100 < ((f i).m : Int)) = false := by simpa using h2
        have HJ2 := Lib.hid (show ∀ j, j < i + 1 → (f j).m ≤ 100 from fun j hj => by
          rcases Nat.lt_succ_iff_lt_or_eq.1 hj with h | rfl
          · exact HJ.out j h
          · omega)
        clear h2
        go_wp2_with fail
        go_round
        case rel => exact ⟨i + 1, by omega, by go_num, HJ2⟩
        case measure => simp [intOf]; omega
    · have HJN := Lib.hid (show ∀ j, j < n → (f j).m ≤ 100 from fun j h => HJ.out j (by omega))
      clear HJ
      go_wp2_with fail
      go_ret
      exact ⟨⟨_, rfl, fun h => ⟨by simp at h; omega, HJN.out⟩⟩, rfl⟩
end Go.Proofs.Ythkpmbgclllnjaa

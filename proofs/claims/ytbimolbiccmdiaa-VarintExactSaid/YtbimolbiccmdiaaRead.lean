/- Contracts of varint.Read's parts. -/
import Derived.Test.YtbimolbiccmdiaaRows
import Derived.Test.YtbimolbiccmdiaaBase
import Derived.WalkLawsBesides
import Derived.Deep.QuietTactic
import Derived.BigQuiet
namespace Go.Proofs.Ytbimolbiccmdiaa
open Go.RowKit

set_option maxHeartbeats 400000 in
theorem rd1_any (x : Int) (w : World) :
    Calls Try.prog 29 #[.int .u8 x] w fun e w' => e = .returned (.bool (decide (x < 128))) ∧ w = w' := by
  go_enter Try.func29, Try.ntmps29
  go_wp2
  go_ret
  exact ⟨rfl, rfl⟩

theorem ret_int {k : IntKind} {a b : Int} (h : a = b) : Ending.returned (.int k a) = .returned (.int k b) := by rw [h]

set_option maxHeartbeats 400000 in
theorem index_any (A : Option Addr) (n c B : Nat) (l : List UInt8) (w : World) (hl : l.length = n) (hn : n ≤ 60000) (hb : BS w B A l) :
    Calls Try.prog 28 #[.slice A n c, .func (.func 29) #[] #[]] w fun e w' => e = .returned (.int .i64 (ix l)) ∧ w = w' := by
  have HL := Lib.hid hl
  clear hl
  have HB := Lib.hid hb
  clear hb
  go_enter Try.func28, Try.ntmps28
  go_wp2_with fail
  go_loop [5, 8] (fun _ i => ∃ k : Nat, k ≤ n ∧ i = .int .i64 k ∧ Hid (∀ i (_ : i < k) (hi : i < l.length), 128 ≤ (l[i]).toNat)) (fun _ i => n - (intOf i).toNat)
  case atStart => exact ⟨0, Nat.zero_le _, rfl, fun i h => absurd h (by omega)⟩
  case round =>
    obtain ⟨k, hk, rfl, HP⟩ := hrel
    by_cases hlt : k < n
    · obtain ⟨b, o, rfl, hbB, hc⟩ := HB.out (by rw [HL.out]; omega)
      have hkl : k < l.length := by rw [HL.out]; exact hlt
      have hck := hc k hkl
      clear hc
      have hx2 : (l[k].toNat : Int) < 256 := by have := l[k].toNat_lt; omega
      have hx0 : 0 ≤ (l[k].toNat : Int) := by omega
      obtain ⟨x, hx⟩ : ∃ x : Int, (l[k].toNat : Int) = x := ⟨_, rfl⟩
      rw [hx] at hck hx2 hx0
      have HX := Lib.hid hx
      clear hx
      by_cases h128 : x < 128
      · go_wp2_with (go_at_call 29; refine (rd1_any _ _).mono ?_; rintro e w' ⟨rfl, rfl⟩)
        go_ret
        exact ⟨ret_int (ix_some hkl (fun i hi => HP.out i hi (by omega)) (by have := HX.out; omega)).symm, rfl⟩
      · go_wp2_with (go_at_call 29; refine (rd1_any _ _).mono ?_; rintro e w' ⟨rfl, rfl⟩)
        go_round
        case rel =>
          refine ⟨k + 1, by omega, by go_num, fun i hi hil => ?_⟩
          rcases Nat.lt_or_ge i k with h | h
          · exact HP.out i h hil
          · obtain rfl : i = k := by omega
            have := HX.out; omega
        case measure => simp [intOf]; omega
    · go_wp2_with fail
      go_ret
      refine ⟨ret_int (ix_none fun i hi => HP.out i (by rw [HL.out] at hi; omega) hi).symm, rfl⟩
end Go.Proofs.Ytbimolbiccmdiaa

/- Contracts of varint.Read's parts. -/
import Derived.Test.YtbimolbiccmdiaaRead
namespace Go.Proofs.Ytbimolbiccmdiaa
open Go.RowKit

set_option maxHeartbeats 400000 in
theorem value_any (A : Option Addr) (n c B : Nat) (l : List UInt8) (w : World) (hl : l.length = n) (hn : n ≤ 5) (hb : BS w B A l) :
    Calls Try.prog 31 #[.slice A n c] w fun e w' => e = .returned (.int .i64 (valOf l)) ∧ w = w' := by
  have HL := Lib.hid hl
  clear hl
  have HB := Lib.hid hb
  clear hb
  go_enter Try.func31, Try.ntmps31
  go_wp2_with fail
  go_loop [2, 3, 4, 7] (fun v _ _ i => ∃ k : Nat, k ≤ n ∧ i = .int .i64 k ∧ ∃ V : Nat, v = .int .i64 V ∧ Hid (V = valOf (l.take k))) (fun _ _ _ i => n - (intOf i).toNat)
  case atStart => exact ⟨0, Nat.zero_le _, rfl, 0, rfl, rfl⟩
  case round =>
    obtain ⟨k, hk, rfl, V, rfl, HV⟩ := hrel
    by_cases hlt : k < n
    · obtain ⟨b, o, rfl, hbB, hc⟩ := HB.out (by rw [HL.out]; omega)
      have hkl : k < l.length := by rw [HL.out]; exact hlt
      have hck := hc k hkl
      clear hc
      have hx2 : (l[k].toNat : Int) < 256 := by have := l[k].toNat_lt; omega
      have hx0 : 0 ≤ (l[k].toNat : Int) := by omega
      obtain ⟨x, hx⟩ : ∃ x : Int, (l[k].toNat : Int) = x := ⟨_, rfl⟩
      rw [hx] at hck hx2 hx0
      have HX := Lib.hid hx
      clear hx
      go_wp2_with fail
      go_round
      case rel =>
        have hV : V < 128 ^ k := by
          have := valOf_lt (l.take k)
          rw [List.length_take, Nat.min_eq_left (by omega), ← HV.out] at this
          exact this
        have hs := (or_step V k x hV (by omega) hx0 hx2).1
        refine ⟨k + 1, by omega, by go_num, _, by rw [hs], ?_⟩
        show _ = valOf (l.take (k + 1))
        rw [valOf_snoc l k hkl, ← HV.out, ← HX.out, Int.toNat_natCast]
      case measure => simp [intOf]; omega
    · go_wp2_with fail
      go_ret
      refine ⟨ret_int ?_, rfl⟩
      rw [HV.out, List.take_of_length_le (by have := HL.out; omega)]

set_option maxHeartbeats 400000 in
theorem normal_any (b o n c : Nat) (x : Int) (w : World) (hn : n ≤ 5) (hn1 : 0 < n) (hc : w.cell? ⟨b, o + (n - 1), none⟩ = some (.int .u8 x)) :
    Calls Try.prog 30 #[.slice (some ⟨b, o, none⟩) n c] w fun e w' => e = .returned (.bool (decide (n = 1) || (x != 0))) ∧ w = w' := by
  by_cases h1 : n = 1
  · subst h1
    clear hc
    go_enter Try.func30, Try.ntmps30
    go_wp2_with fail
    go_ret
    exact ⟨rfl, rfl⟩
  · go_enter Try.func30, Try.ntmps30
    go_wp2_with fail
    go_ret
    exact ⟨by simp [h1]; omega, rfl⟩
end Go.Proofs.Ytbimolbiccmdiaa

/- The contract of (*Reader).Pad. -/
import Derived.Test.YthgbnpafhkhjpaaLr
namespace Go.Proofs.Ythgbnpafhkhjpaa
open Go.RowKit
set_option linter.unusedVariables false
set_option linter.unusedSimpArgs false

set_option maxRecDepth 100000 in
theorem pad1_any (x : Int) (w : World) : Calls Try.prog 48 #[.int .u8 x] w fun e w' => e = .returned (.bool (x != 0)) ∧ w = w' := by
  go_enter Try.func48, Try.ntmps48
  go_wp2_with fail
  go_ret
  exact ⟨rfl, rfl⟩

set_option maxRecDepth 100000 in
set_option maxHeartbeats 1000000 in
theorem index2_any (A : Option Addr) (n c : Nat) (l : List UInt8) (w : World) (hs : Holds w A n (l.map u8)) (hb : n ≤ 2000000) : Calls Try.prog 67 #[.slice A n c, .func (.func 48) #[] #[]] w fun e w' => ∃ i : Int, e = .returned (.int .i64 i) ∧ (0 ≤ i ↔ ∃ (j : Nat) (h : j < l.length), l[j] ≠ 0) ∧ w = w' := by
  have HS := Lib.hid hs
  have hll : l.length = n := by have := hs.1; simpa using this
  have HN := Lib.hid hll
  have hb2 : (n : Int) ≤ 2000000 := by omega
  clear hs hll hb
  go_enter Try.func67, Try.ntmps67
  go_wp2_with fail
  go_loopw [8] (fun ii wz => ∃ i : Nat, (i : Int) ≤ n ∧ ii = .int .i64 i ∧ Hid (∀ j (h : j < l.length), j < i → l[j] = 0) ∧ wz = w) (fun ii _ => n - (intOf ii).toNat)
  case atStart => exact ⟨0, by omega, rfl, Lib.hid (fun j h hj => absurd hj (Nat.not_lt_zero j)), rfl⟩
  case round =>
    obtain ⟨i, hi, rfl, HI, rfl⟩ := hrel
    have hi0 : (0 : Int) ≤ i := by omega
    by_cases hlt : (i : Int) < n
    · have hil : i < l.length := by rw [HN.out]; omega
      obtain ⟨b, o, rfl, hc1⟩ := bs_cell HS.out (by omega) (show (l.map Ythgbnpafhkhjpaa.u8)[i]? = some (Ythgbnpafhkhjpaa.u8 l[i]) by rw [List.getElem?_map, List.getElem?_eq_getElem hil]; rfl)
      unfold Ythgbnpafhkhjpaa.u8 at hc1
      by_cases hz : l[i] = 0
      · have hx : (l[i].toNat : Int) = 0 := by rw [hz]; rfl
        rw [hx] at hc1
        have HZ := Lib.hid hz
        clear hz hx
        go_wp2_with (go_at_call 48; (with_reducible refine (pad1_any _ _).mono ?_); rintro e w1 ⟨rfl, rfl⟩)
        go_roundw
        case rel => exact ⟨i + 1, by omega, by go_num, Lib.hid (fun j h hj => by
          rcases Nat.lt_succ_iff_lt_or_eq.1 hj with h' | rfl
          · exact HI.out j h h'
          · exact HZ.out), trivial⟩
        case measure => simp [intOf]; omega
      · have hx : ((l[i].toNat : Int) != 0) = true := by
          simp
          intro h
          exact hz (UInt8.toNat_inj.1 (by rw [h]; rfl))
        have HZ := Lib.hid hz
        generalize (l[i].toNat : Int) = x at *
        clear hz
        go_wp2_with (go_at_call 48; (with_reducible refine (pad1_any _ _).mono ?_); rintro e w1 ⟨rfl, rfl⟩)
        go_ret
        exact ⟨_, rfl, ⟨fun _ => ⟨i, hil, HZ.out⟩, fun _ => hi0⟩, rfl⟩
    · have hall := Lib.hid (show ∀ j (h : j < l.length), l[j] = 0 from fun j h => HI.out j h (by rw [HN.out] at h; omega))
      go_wp2_with fail
      go_ret
      exact ⟨_, rfl, ⟨fun h => by simp at h, fun ⟨j, h, hj⟩ => absurd (hall.out j h) hj⟩, rfl⟩

set_option maxRecDepth 100000 in
theorem contains_any (A : Option Addr) (n c : Nat) (l : List UInt8) (w : World) (hs : Holds w A n (l.map u8)) (hb : n ≤ 2000000) : Calls Try.prog 47 #[.slice A n c, .func (.func 48) #[] #[]] w fun e w' => ∃ t : Bool, e = .returned (.bool t) ∧ (t = true ↔ ∃ (j : Nat) (h : j < l.length), l[j] ≠ 0) ∧ w = w' := by
  have C := Lib.hid (index2_any A n c l w hs hb)
  clear hs hb
  go_enter Try.func47, Try.ntmps47
  go_wp2_with (go_at_call 67; (with_reducible refine C.out.mono ?_); rintro e w1 ⟨i, rfl, hi, rfl⟩; have HI := Lib.hid hi; clear hi)
  go_ret
  exact ⟨_, rfl, by simpa using HI.out, rfl⟩
end Go.Proofs.Ythgbnpafhkhjpaa

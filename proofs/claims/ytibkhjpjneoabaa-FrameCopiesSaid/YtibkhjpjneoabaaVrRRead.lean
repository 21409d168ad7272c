/- The contract of the reference's Read. -/
import Derived.Test.YtibkhjpjneoabaaVrRd
import Derived.Test.YtibkhjpjneoabaaVrGen
namespace Go.Proofs.Ytibkhjpjneoabaa.Vr
open Go.RowKit

theorem ix_take {l : List UInt8} {k : Nat} (hk : k < l.length) (hk5 : k < 5) (h : ∀ i (_ : i < k) (hi : i < l.length), 128 ≤ (l[i]).toNat) (h1 : l[k].toNat < 128) : ix (l.take 5) = (k : Int) := by
  have hl : k < (l.take 5).length := by rw [List.length_take]; omega
  refine ix_some hl (fun i hi => ?_) (by rw [List.getElem_take]; exact h1)
  rw [List.getElem_take]
  exact h i hi (by omega)
theorem ix_take_none {l : List UInt8} (h : ∀ i (_ : i < 5) (hi : i < l.length), 128 ≤ (l[i]).toNat) : ix (l.take 5) = -1 := by
  refine ix_none fun i hi => ?_
  rw [List.getElem_take]
  rw [List.length_take] at hi
  exact h i (by omega) (by omega)
theorem valOf_take_lt (l : List UInt8) (k : Nat) : valOf (l.take k) < 128 ^ k := by
  refine Nat.lt_of_lt_of_le (valOf_lt _) (Nat.pow_le_pow_right (by omega) ?_)
  rw [List.length_take]; omega

set_option maxRecDepth 100000 in
set_option maxHeartbeats 2000000 in
theorem rread_any (A : Option Addr) (n c B : Nat) (l : List UInt8) (loose : Bool) (w : World) (hl : l.length = n) (hn : n ≤ 60000) (hb : BS w B A l) :
    Calls Try.prog 52 #[.slice A n c, .bool loose] w fun e w' => e = .returned (tup3 (readS l loose)) ∧ w = w' := by
  have HL := Lib.hid hl
  have HB := Lib.hid hb
  clear hl hb
  go_enter Try.func52, Try.ntmps52
  go_wp2_with fail
  go_loop [7, 8, 9] (fun v wt i => ∃ (k : Nat) (x y : Int), k ≤ n ∧ k ≤ 5 ∧ i = .int .i64 k ∧ v = .int .i64 x ∧ wt = .int .i64 y ∧ Hid (x = (valOf (l.take k) : Int) ∧ y = ((128 ^ k : Nat) : Int)) ∧ Hid (∀ i (_ : i < k) (hi : i < l.length), 128 ≤ (l[i]).toNat)) (fun _ _ i => 5 - (intOf i).toNat)
  case atStart => exact ⟨0, 0, 1, by omega, by omega, rfl, rfl, rfl, ⟨rfl, rfl⟩, fun i h => absurd h (by omega)⟩
  case round =>
    obtain ⟨k, x, y, hkn, hk5, rfl, rfl, rfl, HXY, HP⟩ := hrel
    have hx0 : 0 ≤ x := by have := HXY.out.1; omega
    have hy0 : 1 ≤ y := by have := HXY.out.2; have := Nat.pow_pos (n := k) (show 0 < 128 by omega); omega
    have hxy : x < y := by have := HXY.out; have := valOf_take_lt l k; omega
    have hy1 : y ≤ 34359738368 := by
      have h5 : 128 ^ k ≤ 128 ^ 5 := Nat.pow_le_pow_right (by omega) hk5
      have := HXY.out.2
      omega
    by_cases hlt : (k : Int) < 5
    · have hy2 : y ≤ 268435456 := by
        have h5 : 128 ^ k ≤ 128 ^ 4 := Nat.pow_le_pow_right (by omega) (by omega)
        have := HXY.out.2
        omega
      by_cases hkl : k = n
      · have hd : ((k : Int) == (n : Int)) = true := by simp [hkl]
        have HK := Lib.hid hkl
        clear hkl
        go_wp2_with fail
        go_ret3
        refine ⟨?_, rfl⟩
        rw [readS_short (ix_take_none fun i h5 hi => HP.out i (by have := HK.out; have := HL.out; omega) hi) (by have := HK.out; have := HL.out; omega)]
        rfl
      · have hd : ((k : Int) == (n : Int)) = false := by simp; omega
        have hkn' : k < n := by omega
        clear hkl
        obtain ⟨b, o, rfl, hbB, hc⟩ := HB.out (by rw [HL.out]; omega)
        have hkl : k < l.length := by rw [HL.out]; exact hkn'
        have hck := hc k hkl
        clear hc
        have hz2 : (l[k].toNat : Int) < 256 := by have := l[k].toNat_lt; omega
        have hz0 : 0 ≤ (l[k].toNat : Int) := by omega
        obtain ⟨z, hz⟩ : ∃ z : Int, (l[k].toNat : Int) = z := ⟨_, rfl⟩
        rw [hz] at hck hz2 hz0
        have HZ := Lib.hid hz
        clear hz
        have m0 : 0 ≤ z % 128 * y := Int.mul_nonneg (by omega) (by omega)
        have m1 : z % 128 * y ≤ 127 * y := Int.mul_le_mul_of_nonneg_right (by omega) (by omega)
        by_cases h128 : z < 128
        · have hix : ix (l.take 5) = (k : Int) := ix_take hkl (by omega) HP.out (by have := HZ.out; omega)
          have hzz : (l.take 5)[k]? = some 0 ↔ z = 0 := by
            rw [List.getElem?_take_of_lt (by omega), List.getElem?_eq_getElem hkl, ← HZ.out]
            constructor
            · intro h; rw [Option.some.inj h]; rfl
            · intro h; congr 1; exact UInt8.toNat_inj.1 (by simpa using h)
          have hval : ((valOf ((l.take 5).take (k + 1)) : Nat) : Int) = x + z % 128 * y := by
            rw [List.take_take, Nat.min_eq_left (by omega), valOf_snoc l k hkl, HXY.out.1, HXY.out.2, ← HZ.out, Int.mul_comm]
            simp
          rcases (show (k : Int) ≤ 0 ∨ (0 < (k : Int) ∧ (z ≠ 0 ∨ (z = 0 ∧ (loose = true ∨ loose = false)))) by cases loose <;> simp <;> omega) with h0 | ⟨h0, h1 | ⟨h1, rfl | rfl⟩⟩
          · have HR := Lib.hid (readS_some (loose := loose) hix (.inr (.inl (by omega))))
            rw [hval] at HR
            clear hix hzz hval
            go_wp2_with fail
            go_ret3
            exact ⟨by rw [HR.out]; simp [tup3], rfl⟩
          · have HR := Lib.hid (readS_some (loose := loose) hix (.inr (.inr (fun e => h1 (hzz.1 e)))))
            have hd2 : (z == 0) = false := by simp [h1]
            rw [hval] at HR
            clear hix hzz hval h1
            go_wp2_with fail
            go_ret3
            exact ⟨by rw [HR.out]; simp [tup3], rfl⟩
          · have HR := Lib.hid (readS_some (loose := true) hix (.inl rfl))
            have hd2 : (z == 0) = true := by simp [h1]
            rw [hval] at HR
            clear hix hzz hval h1
            go_wp2_with fail
            go_ret3
            exact ⟨by rw [HR.out]; simp [tup3], rfl⟩
          · have HR := Lib.hid (readS_zero hix (by omega) (hzz.2 h1))
            have hd2 : (z == 0) = true := by simp [h1]
            clear hix hzz hval h1
            go_wp2_with fail
            go_ret3
            exact ⟨by rw [HR.out]; simp [tup3], rfl⟩
        · go_wp2_with fail
          go_round
          case rel =>
            refine ⟨k + 1, x + z % 128 * y, y * 128, by omega, by omega, by simp, rfl, rfl, ⟨?_, ?_⟩, fun i hi hil => ?_⟩
            · rw [valOf_snoc l k hkl, HXY.out.1, HXY.out.2, ← HZ.out, Int.mul_comm]; simp
            · rw [HXY.out.2, Nat.pow_succ]; simp
            · rcases Nat.lt_or_ge i k with h | h
              · exact HP.out i h hil
              · obtain rfl : i = k := by omega
                have := HZ.out; omega
          case measure => simp [intOf]; omega
    · obtain rfl : k = 5 := by omega
      clear hlt
      go_wp2_with fail
      go_ret3
      refine ⟨?_, rfl⟩
      rw [readS_long (ix_take_none fun i h5 hi => HP.out i h5 hi) (by have := HL.out; omega)]
      rfl
end Go.Proofs.Ytibkhjpjneoabaa.Vr

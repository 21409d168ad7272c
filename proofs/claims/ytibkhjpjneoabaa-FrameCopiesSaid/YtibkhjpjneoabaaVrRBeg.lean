/- The contract of the reference's Begins. -/
import Derived.Test.YtibkhjpjneoabaaVrBeg
import Derived.Test.YtibkhjpjneoabaaVrRRead
import Derived.Test.YtibkhjpjneoabaaVrRefF
namespace Go.Proofs.Ytibkhjpjneoabaa.Vr
open Go.RowKit

section
variable (A : Option Addr) (n c B : Nat) (l : List UInt8) (loose : Bool) (lo hi : Int) (w : World)

set_option maxRecDepth 100000 in
set_option maxHeartbeats 1000000 in
theorem rbegins_bad (h : lo < 0 ∨ hi < lo ∨ 34359738368 ≤ hi) :
    Calls Try.prog 53 #[.slice A n c, .bool loose, .int .i64 lo, .int .i64 hi] w fun e w' => e = .returned (tupB (beginsS l loose lo hi)) ∧ w = w' := by
  have hr : beginsS l loose lo hi = (false, 2) := by unfold beginsS; rw [if_pos h]
  have HR := Lib.hid hr
  clear hr
  by_cases h1 : lo < 0
  · clear h
    go_enter Try.func53, Try.ntmps53
    go_wp2_with fail
    go_ret2
    exact ⟨by rw [HR.out]; rfl, rfl⟩
  · by_cases h2 : hi < lo
    · clear h
      go_enter Try.func53, Try.ntmps53
      go_wp2_with fail
      go_ret2
      exact ⟨by rw [HR.out]; rfl, rfl⟩
    · have h3 : hi < 0 ∨ 34359738368 ≤ hi := by omega
      clear h
      have H3 := Lib.hid h3
      clear h3
      go_enter Try.func53, Try.ntmps53
      go_wp2_with (first | (go_at_call 45; (with_reducible refine (rallowed_no _ _ H3.out).mono ?_); rintro e w' ⟨rfl, rfl⟩))
      go_ret2
      exact ⟨by rw [HR.out]; rfl, rfl⟩

theorem readS_len (_ : (readS l loose).2.2 = 0) : (readS l loose).2.1 ≤ 5 := by
  unfold readS
  dsimp only
  have h5 : (l.take 5).length ≤ 5 := by rw [List.length_take]; omega
  rcases ix_cases (l.take 5) with ⟨hx, _⟩ | ⟨k, hk, hx, _, _⟩ <;> rw [hx] <;> (repeat' split) <;> simp <;> omega

set_option maxRecDepth 100000 in
set_option maxHeartbeats 1000000 in
theorem rbegins_long (hlo : 0 ≤ lo) (hlh : lo ≤ hi) (hhi : hi < 34359738368) (hl : l.length = n) (hn : n ≤ 60000) (h5 : 5 < (n : Int)) :
    Calls Try.prog 53 #[.slice A n c, .bool loose, .int .i64 lo, .int .i64 hi] w fun e w' => e = .returned (tupB (beginsS l loose lo hi)) ∧ w = w' := by
  have hr : beginsS l loose lo hi = (false, 0) := by
    unfold beginsS
    rw [if_neg (by omega)]
    rcases readS_e l loose with he | he | he
    · rw [if_pos he]
      have := readS_len l loose he
      simp; omega
    · have := readS_e4 l loose he; omega
    · rw [if_neg (by omega), if_pos (by omega)]
  have HR := Lib.hid hr
  clear hr hl
  go_enter Try.func53, Try.ntmps53
  go_wp2_with (first | (go_at_call 45; (with_reducible refine (rallowed_yes _ _ (by omega) hhi).mono ?_); rintro e w' ⟨rfl, rfl⟩))
  go_ret2
  exact ⟨by rw [HR.out]; rfl, rfl⟩

set_option maxRecDepth 100000 in
set_option maxHeartbeats 4000000 in
theorem rbegins_loop (hlo : 0 ≤ lo) (hlh : lo ≤ hi) (hhi : hi < 34359738368) (hl : l.length = n) (h5 : (n : Int) ≤ 5) (hb : BS w B A l) :
    Calls Try.prog 53 #[.slice A n c, .bool loose, .int .i64 lo, .int .i64 hi] w fun e w' => e = .returned (tupB (beginsS l loose lo hi)) ∧ w = w' := by
  have HL := Lib.hid hl
  have HB := Lib.hid hb
  clear hl hb
  go_enter Try.func53, Try.ntmps53
  go_wp2_with (first | (go_at_call 45; (with_reducible refine (rallowed_yes _ _ (by omega) hhi).mono ?_); rintro e w' ⟨rfl, rfl⟩))
  go_loop [10, 11, 12] (fun v wt i => ∃ (k : Nat) (x y : Int), k ≤ n ∧ i = .int .i64 k ∧ v = .int .i64 x ∧ wt = .int .i64 y ∧ Hid (x = (valOf (l.take k) : Int) ∧ y = ((128 ^ k : Nat) : Int)) ∧ Hid (∀ i (_ : i < k) (hi : i < l.length), 128 ≤ (l[i]).toNat)) (fun _ _ i => 5 - (intOf i).toNat)
  case atStart => exact ⟨0, 0, 1, by omega, rfl, rfl, rfl, ⟨rfl, rfl⟩, fun i h => absurd h (by omega)⟩
  case round =>
    obtain ⟨k, x, y, hkn, rfl, rfl, rfl, HXY, HP⟩ := hrel
    have hx0 : 0 ≤ x := by have := HXY.out.1; omega
    have hy0 : 1 ≤ y := by have := HXY.out.2; have := Nat.pow_pos (n := k) (show 0 < 128 by omega); omega
    have hxy : x < y := by have := HXY.out; have := valOf_take_lt l k; omega
    have hy1 : y ≤ 34359738368 := by
      have h5 : 128 ^ k ≤ 128 ^ 5 := Nat.pow_le_pow_right (by omega) (by omega)
      have := HXY.out.2
      omega
    by_cases hlt : (k : Int) < (n : Int)
    · have hy2 : y ≤ 268435456 := by
        have h5 : 128 ^ k ≤ 128 ^ 4 := Nat.pow_le_pow_right (by omega) (by omega)
        have := HXY.out.2
        omega
      obtain ⟨b, o, rfl, hbB, hc⟩ := HB.out (by rw [HL.out]; omega)
      have hkl : k < l.length := by rw [HL.out]; omega
      have hck := hc k hkl
      clear hc
      have hz2 : (l[k].toNat : Int) < 256 := by have := l[k].toNat_lt; omega
      have hz0 : 0 ≤ (l[k].toNat : Int) := by omega
      obtain ⟨z, hz⟩ : ∃ z : Int, (l[k].toNat : Int) = z := ⟨_, rfl⟩
      rw [hz] at hck hz2 hz0
      have HZ := Lib.hid hz
      clear hz
      have m0 : 0 ≤ z % 128 * y := Int.mul_nonneg (by omega) (by omega)
      have m1 : z % 128 * y ≤ 127 * y := Int.mul_le_mul_of_nonneg_right (by omega) (by omega)
      by_cases h128 : z < 128
      · have hix : ix (l.take 5) = (k : Int) := ix_take hkl (by omega) HP.out (by have := HZ.out; omega)
        have hzz : (l.take 5)[k]? = some 0 ↔ z = 0 := by
          rw [List.getElem?_take_of_lt (by omega), List.getElem?_eq_getElem hkl, ← HZ.out]
          constructor
          · intro h; rw [Option.some.inj h]; rfl
          · intro h; congr 1; exact UInt8.toNat_inj.1 (by simpa using h)
        have hval : ((valOf ((l.take 5).take (k + 1)) : Nat) : Int) = x + z % 128 * y := by
          rw [List.take_take, Nat.min_eq_left (by omega), valOf_snoc l k hkl, HXY.out.1, HXY.out.2, ← HZ.out, Int.mul_comm]
          simp
        have hdone : (loose = true ∨ k = 0 ∨ (l.take 5)[k]? ≠ some 0) → beginsS l loose lo hi = (decide ((k : Int) + 1 = (n : Int) ∧ lo ≤ x + z % 128 * y ∧ x + z % 128 * y ≤ hi), 0) := fun h => by
          unfold beginsS
          rw [if_neg (by omega), readS_some hix h, if_pos rfl, hval, HL.out]
        have hzero : loose = false → k ≠ 0 → (l.take 5)[k]? = some 0 → beginsS l loose lo hi = (false, 0) := fun h1 h2 h3 => by
          unfold beginsS
          rw [if_neg (by omega), h1, readS_zero hix h2 h3]
          simp
        have hfar : k + 1 ≠ n → beginsS l loose lo hi = (false, 0) := fun hne => by
          by_cases hh : loose = true ∨ k = 0 ∨ (l.take 5)[k]? ≠ some 0
          · rw [hdone hh]; simp; omega
          · simp only [not_or, Decidable.not_not] at hh
            exact hzero (by simpa using hh.1) hh.2.1 hh.2.2
        by_cases hlast : k + 1 = n
        · have hd1 : ((k : Int) == (n : Int) - 1) = true := by simp; omega
          have HLAST := Lib.hid hlast
          clear hlast hfar
          rcases (show loose = true ∨ (loose = false ∧ (k = 0 ∨ (k ≠ 0 ∧ z ≠ 0) ∨ (k ≠ 0 ∧ z = 0))) by cases loose <;> simp <;> omega) with rfl | ⟨rfl, h0 | ⟨h0, h1⟩ | ⟨h0, h1⟩⟩
          · have HR := Lib.hid (hdone (.inl rfl))
            clear hix hzz hval hdone hzero
            by_cases hv : lo ≤ x + z % 128 * y
            · have hdv : decide (lo ≤ x + z % 128 * y) = true := by simp [hv]
              go_wp2_with fail
              go_ret2
              exact ⟨by rw [HR.out]; have := HLAST.out; simp [tupB, hv]; omega, rfl⟩
            · have hdv : decide (lo ≤ x + z % 128 * y) = false := by simp; omega
              have HV := Lib.hid hv
              clear hv
              go_wp2_with fail
              go_ret2
              exact ⟨by rw [HR.out]; have := HV.out; simp [tupB]; omega, rfl⟩
          · have HR := Lib.hid (hdone (.inr (.inl h0)))
            have hd0 : ((k : Int) == 0) = true := by simp [h0]
            clear hix hzz hval hdone hzero h0
            by_cases hv : lo ≤ x + z % 128 * y
            · have hdv : decide (lo ≤ x + z % 128 * y) = true := by simp [hv]
              go_wp2_with fail
              go_ret2
              exact ⟨by rw [HR.out]; have := HLAST.out; simp [tupB, hv]; omega, rfl⟩
            · have hdv : decide (lo ≤ x + z % 128 * y) = false := by simp; omega
              have HV := Lib.hid hv
              clear hv
              go_wp2_with fail
              go_ret2
              exact ⟨by rw [HR.out]; have := HV.out; simp [tupB]; omega, rfl⟩
          · have HR := Lib.hid (hdone (.inr (.inr (fun e => h1 (hzz.1 e)))))
            have hd0 : ((k : Int) == 0) = false := by simp; omega
            have hdz : decide (0 < z) = true := by simp; omega
            clear hix hzz hval hdone hzero h0 h1
            by_cases hv : lo ≤ x + z % 128 * y
            · have hdv : decide (lo ≤ x + z % 128 * y) = true := by simp [hv]
              go_wp2_with fail
              go_ret2
              exact ⟨by rw [HR.out]; have := HLAST.out; simp [tupB, hv]; omega, rfl⟩
            · have hdv : decide (lo ≤ x + z % 128 * y) = false := by simp; omega
              have HV := Lib.hid hv
              clear hv
              go_wp2_with fail
              go_ret2
              exact ⟨by rw [HR.out]; have := HV.out; simp [tupB]; omega, rfl⟩
          · have HR := Lib.hid (hzero rfl h0 (hzz.2 h1))
            have hd0 : ((k : Int) == 0) = false := by simp; omega
            have hdz : decide (0 < z) = false := by simp; omega
            clear hix hzz hval hdone hzero h0 h1
            go_wp2_with fail
            go_ret2
            exact ⟨by rw [HR.out]; rfl, rfl⟩
        · have hd1 : ((k : Int) == (n : Int) - 1) = false := by simp; omega
          have HR := Lib.hid (hfar hlast)
          clear hix hzz hval hdone hzero hfar hlast
          go_wp2_with fail
          go_ret2
          exact ⟨by rw [HR.out]; rfl, rfl⟩
      · go_wp2_with fail
        go_round
        case rel =>
          refine ⟨k + 1, x + z % 128 * y, y * 128, by omega, by simp, rfl, rfl, ⟨?_, ?_⟩, fun i hi hil => ?_⟩
          · rw [valOf_snoc l k hkl, HXY.out.1, HXY.out.2, ← HZ.out, Int.mul_comm]; simp
          · rw [HXY.out.2, Nat.pow_succ]; simp
          · rcases Nat.lt_or_ge i k with h | h
            · exact HP.out i h hil
            · obtain rfl : i = k := by omega
              have := HZ.out; omega
        case measure => simp [intOf]; omega
    · obtain rfl : k = n := by omega
      have hix : ix (l.take 5) = -1 := ix_take_none fun i h5 hi => HP.out i (by have := HL.out; omega) hi
      have hvl : (valOf l : Int) = x := by rw [HXY.out.1, List.take_of_length_le (by have := HL.out; omega)]
      clear hlt
      by_cases hk5 : k = 5
      · have hr : beginsS l loose lo hi = (false, 0) := by
          unfold beginsS
          rw [if_neg (by omega), readS_long hix (by have := HL.out; omega)]
          simp
        have HR := Lib.hid hr
        have hd5 : ((k : Int) == 5) = true := by simp [hk5]
        clear hr hk5 hix hvl
        go_wp2_with fail
        go_ret2
        exact ⟨by rw [HR.out]; rfl, rfl⟩
      · have hr : beginsS l loose lo hi = (decide (begLow l loose lo ≤ hi), 0) := by
          unfold beginsS
          rw [if_neg (by omega), readS_short hix (by have := HL.out; omega)]
          simp
        have hd5 : ((k : Int) == 5) = false := by simp; omega
        have hy2 : y ≤ 268435456 := by
          have h5 : 128 ^ k ≤ 128 ^ 4 := Nat.pow_le_pow_right (by omega) (by omega)
          have := HXY.out.2
          omega
        unfold begLow at hr
        rw [HL.out, hvl, ← HXY.out.2] at hr
        clear hk5 hix hvl
        by_cases hs : loose = false ∧ 0 < k
        · obtain ⟨rfl, hn0⟩ := hs
          rw [if_pos ⟨rfl, hn0⟩] at hr
          have hd : decide ((0 : Int) < (k : Int)) = true := by simp; omega
          by_cases hlw : x + y < lo
          · have hq0 : 0 ≤ (lo - (x + y) + y - 1) / y := Int.ediv_nonneg (by omega) (by omega)
            have hq1 : (lo - (x + y) + y - 1) / y * y ≤ lo - (x + y) + y - 1 := Int.ediv_mul_le _ (by omega)
            have hq2 : 0 ≤ (lo - (x + y) + y - 1) / y * y := Int.mul_nonneg hq0 (by omega)
            unfold bump at hr; rw [if_pos hlw] at hr
            have HR := Lib.hid hr
            clear hr
            go_wp2_with fail
            go_ret2
            exact ⟨by rw [HR.out]; rfl, rfl⟩
          · unfold bump at hr; rw [if_neg hlw] at hr
            have HR := Lib.hid hr
            clear hr
            go_wp2_with fail
            go_ret2
            exact ⟨by rw [HR.out]; rfl, rfl⟩
        · rw [if_neg hs, Int.add_zero] at hr
          cases loose with
          | true =>
            clear hs
            by_cases hlw : x < lo
            · have hq0 : 0 ≤ (lo - (x) + y - 1) / y := Int.ediv_nonneg (by omega) (by omega)
              have hq1 : (lo - (x) + y - 1) / y * y ≤ lo - (x) + y - 1 := Int.ediv_mul_le _ (by omega)
              have hq2 : 0 ≤ (lo - (x) + y - 1) / y * y := Int.mul_nonneg hq0 (by omega)
              unfold bump at hr; rw [if_pos hlw] at hr
              have HR := Lib.hid hr
              clear hr
              go_wp2_with fail
              go_ret2
              exact ⟨by rw [HR.out]; rfl, rfl⟩
            · unfold bump at hr; rw [if_neg hlw] at hr
              have HR := Lib.hid hr
              clear hr
              go_wp2_with fail
              go_ret2
              exact ⟨by rw [HR.out]; rfl, rfl⟩
          | false =>
            have hn00 : (k : Int) ≤ 0 := by simp at hs; omega
            clear hs
            by_cases hlw : x < lo
            · have hq0 : 0 ≤ (lo - (x) + y - 1) / y := Int.ediv_nonneg (by omega) (by omega)
              have hq1 : (lo - (x) + y - 1) / y * y ≤ lo - (x) + y - 1 := Int.ediv_mul_le _ (by omega)
              have hq2 : 0 ≤ (lo - (x) + y - 1) / y * y := Int.mul_nonneg hq0 (by omega)
              unfold bump at hr; rw [if_pos hlw] at hr
              have HR := Lib.hid hr
              clear hr
              go_wp2_with fail
              go_ret2
              exact ⟨by rw [HR.out]; rfl, rfl⟩
            · unfold bump at hr; rw [if_neg hlw] at hr
              have HR := Lib.hid hr
              clear hr
              go_wp2_with fail
              go_ret2
              exact ⟨by rw [HR.out]; rfl, rfl⟩

/-- The contract. -/
theorem rbegins_any (hl : l.length = n) (hn : n ≤ 60000) (hb : BS w B A l) :
    Calls Try.prog 53 #[.slice A n c, .bool loose, .int .i64 lo, .int .i64 hi] w fun e w' => e = .returned (tupB (beginsS l loose lo hi)) ∧ w = w' := by
  by_cases h : lo < 0 ∨ hi < lo ∨ 34359738368 ≤ hi
  · exact rbegins_bad A n c l loose lo hi w h
  · by_cases h5 : (n : Int) ≤ 5
    · exact rbegins_loop A n c B l loose lo hi w (by omega) (by omega) (by omega) hl h5 hb
    · exact rbegins_long A n c l loose lo hi w (by omega) (by omega) (by omega) hl hn (by omega)
end
end Go.Proofs.Ytibkhjpjneoabaa.Vr

/- The contract of cipher.Xor; the reference's words. -/
import Derived.Test.YtbfejjjdolfcfaaXo2
namespace Go.Proofs.Ytbfejjjdolfcfaa
open Go.RowKit
set_option linter.unusedVariables false
set_option linter.unusedSimpArgs false

/-- What Xor answers. -/
def xorR (key a : Int) (l : List UInt8) : List UInt8 := if errP key a l.length = 0 then xorS key a.toNat l else []
theorem errP_ok {key a n : Int} (h : errP key a n = 0) : isW key = true ∧ 0 ≤ a ∧ a ≤ 274877906944 - n := by
  unfold errP at h
  split at h
  · cases h
  · rename_i h1
    split at h
    · cases h
    · refine ⟨?_, by omega, by omega⟩
      cases hk : isW key with
      | true => rfl
      | false => exact absurd (.inl hk) h1

set_option maxRecDepth 100000 in
set_option maxHeartbeats 1000000 in
theorem xor_any (A : Option Addr) (n c : Nat) (key a : Int) (l : List UInt8) (w : World) (hl : l.length = n) (hn : n ≤ 3000) (hb : Holds w A n (l.map u8)) (hc : A = none → c = 0) :
    Calls Try.prog 14 #[.int .i64 key, .int .i64 a, .slice A n c] w fun e w' => Rowed w 5 (xorR key a l).length ((xorR key a l).map u8) (fun v => .tuple #[v, .int .i64 (errP key a n)]) e w' := by
  have c30 := fun W => check_any key a n W (by omega) (by omega)
  have HBX := Lib.hid (Blk.new w 44 #[.int .i64 key, .int .i64 a])
  have hw0 := (Below.refl _ w).alloc (Nat.le_refl _) (.cells #[.int .i64 key, .int .i64 a] 44)
  unfold xorR
  rw [hl]
  by_cases he : errP key a n = 0
  · obtain ⟨hk, h0, h1⟩ := errP_ok he
    rw [if_pos he, he]
    simp only [he] at c30
    have C30 := Lib.hid c30
    have HW0 := Lib.hid hw0
    obtain ⟨an, rfl⟩ := Int.eq_ofNat_of_zero_le h0
    rw [Int.toNat_natCast]
    have hx : ∀ W, Holds W A n (l.map u8) → Calls Try.prog 31 #[.agg #[.int .i64 key, .int .i64 an], .slice A n c] W fun e w' => Rowed W 5 (xorS key an l).length ((xorS key an l).map u8) (fun v => v) e w' := fun W hW => by
      unfold xorS
      by_cases hk0 : key = 0
      · subst hk0
        rw [if_pos rfl, hl]
        exact pxor_zero A n c an l W hl hn hW hc
      · rw [if_neg hk0, xorL_length, hl]
        exact pxor_any A n c an key l W hl hn hW hc hk hk0 (by omega)
    generalize xorS key an l = out at hx ⊢
    have HX := Lib.hid hx
    have HB := Lib.hid hb
    clear c30 hw0 he hk h0 h1 hx hb hc hl
    go_enter Try.func14, Try.ntmps14
    go_wp2_with fail
    (with_reducible refine (C30.out _).mono ?_); rintro e w1 ⟨rfl, b1⟩
    have hc0 := (HBX.out.below b1 HBX.out.lt).cell 0
    have hc1 := (HBX.out.below b1 HBX.out.lt).cell 1
    simp at hc0 hc1
    have HW1 := Lib.hid (HW0.out.trans (b1.mono (by simp)))
    have HB1 := Lib.hid (HB.out.keep HW1.out)
    clear b1
    go_wp2_with fail
    (with_reducible refine (HX.out _ HB1.out).mono ?_); rintro e w2 ⟨v, rfl, ho, b2⟩
    have HO := Lib.hid (own_base ho HW1.out.size)
    have HW2 := Lib.hid (HW1.out.trans (b2.mono HW1.out.size))
    clear ho b2
    go_wp2_with fail
    go_ret2
    exact ⟨v, rfl, HO.out, HW2.out⟩
  · rw [if_neg he]
    have hd : (errP key a n != 0) = true := by rw [bne_iff_ne]; exact he
    generalize errP key a n = E at *
    have C30 := Lib.hid c30
    have HW0 := Lib.hid hw0
    clear c30 hw0 he hb hc hl
    go_enter Try.func14, Try.ntmps14
    go_wp2_with fail
    (with_reducible refine (C30.out _).mono ?_); rintro e w1 ⟨rfl, b1⟩
    have HW1 := Lib.hid (HW0.out.trans (b1.mono (by simp)))
    clear b1
    go_wp2_with fail
    go_ret2
    exact ⟨_, rfl, World.ownsRow_nil _ _ 5 1, HW1.out⟩

/-! the reference's words -/
def wordsB (l : List Int) (n : Int) : Bool := l.all isW && ((l.length : Int) == n)
set_option maxRecDepth 100000 in
theorem words_any (A : Option Addr) (n c : Nat) (k : Int) (l : List Int) (w : World) (hl : l.length = n) (hn : n ≤ 60000) (hb : Holds w A n (l.map iw)) :
    Calls Try.prog 29 #[.slice A n c, .int .i64 k] w fun e w' => e = .returned (.bool (wordsB l k)) ∧ w = w' := by
  obtain ⟨R, hR⟩ : ∃ R, wordsB l k = R := ⟨_, rfl⟩
  rw [hR]
  have HR := Lib.hid hR
  have HL := Lib.hid hl
  have HB := Lib.hid hb
  clear hR hl hb
  go_enter Try.func29, Try.ntmps29
  go_wp2_with fail
  go_loop [5] (fun i => ∃ j : Nat, j ≤ n ∧ i = .int .i64 j ∧ Hid (∀ i (hi : i < j) (hl : i < l.length), isW l[i] = true)) (fun i => n - (intOf i).toNat)
  case atStart => exact ⟨0, Nat.zero_le _, rfl, Lib.hid fun i hi => absurd hi (by omega)⟩
  case round =>
    obtain ⟨j, hj, rfl, HP⟩ := hrel
    by_cases hlt : (j : Int) < n
    · have hkl : j < l.length := by rw [HL.out]; omega
      obtain ⟨ad, rfl⟩ : ∃ ad, A = some ad := by
        cases A with
        | none => have := (HB.out.2.1 rfl).1; omega
        | some ad => exact ⟨ad, rfl⟩
      have hc := HB.out.2.2 ad rfl j (iw l[j]) (by simp [List.getElem?_eq_getElem hkl])
      unfold iw at hc
      have HP2 : isW l[j] = true → Hid (∀ i (hi : i < j + 1) (hl : i < l.length), isW l[i] = true) := fun h => Lib.hid fun i hi hil => by
        rcases Nat.lt_or_ge i j with h1 | h1
        · exact HP.out i h1 hil
        · obtain rfl : i = j := by omega
          exact h
      have HE : isW l[j] = false → Hid (R = false) := fun h => Lib.hid (by
        rw [← HR.out, wordsB, Bool.and_eq_false_iff]
        left
        rw [List.all_eq_false]
        exact ⟨l[j], List.getElem_mem hkl, by rw [h]; simp⟩)
      generalize l[j] = x at *
      by_cases h0 : x < 0
      · have H2 := HE (by simp [isW]; omega)
        clear HP2 HE hkl
        go_wp2_with fail
        go_ret
        exact ⟨by rw [H2.out]; rfl, rfl⟩
      · by_cases h1 : 4294967296 ≤ x
        · have H2 := HE (by simp [isW]; omega)
          have h0' : 0 ≤ x := by omega
          clear HP2 HE hkl h0
          go_wp2_with fail
          go_ret
          exact ⟨by rw [H2.out]; rfl, rfl⟩
        · have H2 := HP2 (by simp [isW]; omega)
          have h0' : 0 ≤ x := by omega
          have h1' : x < 4294967296 := by omega
          clear HP2 HE hkl h0 h1
          go_wp2_with fail
          go_round
          case rel => exact ⟨j + 1, by omega, by go_num, H2⟩
          case measure => simp [intOf]; omega
    · obtain rfl : j = n := by omega
      have H2 : Hid (R = ((j : Int) == k)) := Lib.hid (by
        rw [← HR.out, wordsB, HL.out, show l.all isW = true from List.all_eq_true.2 fun x hx => by
          obtain ⟨i, hi, rfl⟩ := List.getElem_of_mem hx
          exact HP.out i (by rw [← HL.out]; exact hi) hi, Bool.true_and])
      go_wp2_with fail
      go_ret
      exact ⟨by rw [H2.out]; rfl, rfl⟩
end Go.Proofs.Ytbfejjjdolfcfaa

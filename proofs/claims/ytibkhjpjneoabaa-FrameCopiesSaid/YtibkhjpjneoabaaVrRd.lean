/- Contracts of varint.Read's parts. Contracts of varint.Read's parts. The contract of varint.Read. -/
import Derived.Test.YtibkhjpjneoabaaRows
import Derived.Test.YtibkhjpjneoabaaVrGen
import Derived.WalkLawsBesides
import Derived.Deep.QuietTactic
import Derived.BigQuiet
namespace Go.Proofs.Ytibkhjpjneoabaa.Vr
open Go.RowKit

set_option maxHeartbeats 400000 in
theorem rd1_any (x : Int) (w : World) :
    Calls Try.prog 68 #[.int .u8 x] w fun e w' => e = .returned (.bool (decide (x < 128))) ∧ w = w' := by
  go_enter Try.func68, Try.ntmps68
  go_wp2
  go_ret
  exact ⟨rfl, rfl⟩

theorem ret_int {k : IntKind} {a b : Int} (h : a = b) : Ending.returned (.int k a) = .returned (.int k b) := by rw [h]

set_option maxHeartbeats 400000 in
theorem index_any (A : Option Addr) (n c B : Nat) (l : List UInt8) (w : World) (hl : l.length = n) (hn : n ≤ 60000) (hb : BS w B A l) :
    Calls Try.prog 67 #[.slice A n c, .func (.func 68) #[] #[]] w fun e w' => e = .returned (.int .i64 (ix l)) ∧ w = w' := by
  have HL := Lib.hid hl
  clear hl
  have HB := Lib.hid hb
  clear hb
  go_enter Try.func67, Try.ntmps67
  go_wp2_with fail
  go_loop [5, 8] (fun _ i => ∃ k : Nat, k ≤ n ∧ i = .int .i64 k ∧ Hid (∀ i (_ : i < k) (hi : i < l.length), 128 ≤ (l[i]).toNat)) (fun _ i => n - (intOf i).toNat)
  case atStart => exact ⟨0, Nat.zero_le _, rfl, fun i h => absurd h (by omega)⟩
  case round =>
    obtain ⟨k, hk, rfl, HP⟩ := hrel
    by_cases hlt : k < n
    · obtain ⟨b, o, rfl, hbB, hc⟩ := HB.out (by rw [HL.out]; omega)
      have hkl : k < l.length := by rw [HL.out]; exact hlt
      have hck := hc k hkl
      clear hc
      have hx2 : (l[k].toNat : Int) < 256 := by have := l[k].toNat_lt; omega
      have hx0 : 0 ≤ (l[k].toNat : Int) := by omega
      obtain ⟨x, hx⟩ : ∃ x : Int, (l[k].toNat : Int) = x := ⟨_, rfl⟩
      rw [hx] at hck hx2 hx0
      have HX := Lib.hid hx
      clear hx
      by_cases h128 : x < 128
      · go_wp2_with (go_at_call 68; refine (rd1_any _ _).mono ?_; rintro e w' ⟨rfl, rfl⟩)
        go_ret
        exact ⟨ret_int (ix_some hkl (fun i hi => HP.out i hi (by omega)) (by have := HX.out; omega)).symm, rfl⟩
      · go_wp2_with (go_at_call 68; refine (rd1_any _ _).mono ?_; rintro e w' ⟨rfl, rfl⟩)
        go_round
        case rel =>
          refine ⟨k + 1, by omega, by go_num, fun i hi hil => ?_⟩
          rcases Nat.lt_or_ge i k with h | h
          · exact HP.out i h hil
          · obtain rfl : i = k := by omega
            have := HX.out; omega
        case measure => simp [intOf]; omega
    · go_wp2_with fail
      go_ret
      refine ⟨ret_int (ix_none fun i hi => HP.out i (by rw [HL.out] at hi; omega) hi).symm, rfl⟩
end Go.Proofs.Ytibkhjpjneoabaa.Vr

namespace Go.Proofs.Ytibkhjpjneoabaa.Vr
open Go.RowKit

set_option maxHeartbeats 400000 in
theorem value_any (A : Option Addr) (n c B : Nat) (l : List UInt8) (w : World) (hl : l.length = n) (hn : n ≤ 5) (hb : BS w B A l) :
    Calls Try.prog 70 #[.slice A n c] w fun e w' => e = .returned (.int .i64 (valOf l)) ∧ w = w' := by
  have HL := Lib.hid hl
  clear hl
  have HB := Lib.hid hb
  clear hb
  go_enter Try.func70, Try.ntmps70
  go_wp2_with fail
  go_loop [2, 3, 4, 7] (fun v _ _ i => ∃ k : Nat, k ≤ n ∧ i = .int .i64 k ∧ ∃ V : Nat, v = .int .i64 V ∧ Hid (V = valOf (l.take k))) (fun _ _ _ i => n - (intOf i).toNat)
  case atStart => exact ⟨0, Nat.zero_le _, rfl, 0, rfl, rfl⟩
  case round =>
    obtain ⟨k, hk, rfl, V, rfl, HV⟩ := hrel
    by_cases hlt : k < n
    · obtain ⟨b, o, rfl, hbB, hc⟩ := HB.out (by rw [HL.out]; omega)
      have hkl : k < l.length := by rw [HL.out]; exact hlt
      have hck := hc k hkl
      clear hc
      have hx2 : (l[k].toNat : Int) < 256 := by have := l[k].toNat_lt; omega
      have hx0 : 0 ≤ (l[k].toNat : Int) := by omega
      obtain ⟨x, hx⟩ : ∃ x : Int, (l[k].toNat : Int) = x := ⟨_, rfl⟩
      rw [hx] at hck hx2 hx0
      have HX := Lib.hid hx
      clear hx
      go_wp2_with fail
      go_round
      case rel =>
        have hV : V < 128 ^ k := by
          have := valOf_lt (l.take k)
          rw [List.length_take, Nat.min_eq_left (by omega), ← HV.out] at this
          exact this
        have hs := (or_step V k x hV (by omega) hx0 hx2).1
        refine ⟨k + 1, by omega, by go_num, _, by rw [hs], ?_⟩
        show _ = valOf (l.take (k + 1))
        rw [valOf_snoc l k hkl, ← HV.out, ← HX.out, Int.toNat_natCast]
      case measure => simp [intOf]; omega
    · go_wp2_with fail
      go_ret
      refine ⟨ret_int ?_, rfl⟩
      rw [HV.out, List.take_of_length_le (by have := HL.out; omega)]

set_option maxHeartbeats 400000 in
theorem normal_any (b o n c : Nat) (x : Int) (w : World) (hn : n ≤ 5) (hn1 : 0 < n) (hc : w.cell? ⟨b, o + (n - 1), none⟩ = some (.int .u8 x)) :
    Calls Try.prog 69 #[.slice (some ⟨b, o, none⟩) n c] w fun e w' => e = .returned (.bool (decide (n = 1) || (x != 0))) ∧ w = w' := by
  by_cases h1 : n = 1
  · subst h1
    clear hc
    go_enter Try.func69, Try.ntmps69
    go_wp2_with fail
    go_ret
    exact ⟨rfl, rfl⟩
  · go_enter Try.func69, Try.ntmps69
    go_wp2_with fail
    go_ret
    exact ⟨by simp [h1]; omega, rfl⟩
end Go.Proofs.Ytibkhjpjneoabaa.Vr

namespace Go.Proofs.Ytibkhjpjneoabaa.Vr
open Go.RowKit

/-- What Read gives: the number, the length, the error. -/
def readS (l : List UInt8) (loose : Bool) : Int × Int × Int :=
  let p := l.take 5
  let k := ix p
  if k < 0 then (if l.length < 5 then (0, 0, 4) else (0, 0, 6))
  else if loose = false ∧ k ≠ 0 ∧ p[k.toNat]? = some 0 then (0, 0, 6) else ((valOf (p.take (k.toNat + 1)) : Int), k + 1, 0)
def tup3 (r : Int × Int × Int) : Value := .tuple #[.int .i64 r.1, .int .i64 r.2.1, .int .i64 r.2.2]
theorem readS_short {l : List UInt8} {loose : Bool} (h : ix (l.take 5) = -1) (hn : l.length < 5) : readS l loose = (0, 0, 4) := by simp [readS, h, hn]
theorem readS_long {l : List UInt8} {loose : Bool} (h : ix (l.take 5) = -1) (hn : 5 ≤ l.length) : readS l loose = (0, 0, 6) := by simp [readS, h]; omega
theorem readS_zero {l : List UInt8} {k : Nat} (h : ix (l.take 5) = (k : Int)) (h0 : k ≠ 0) (hk : (l.take 5)[k]? = some 0) : readS l false = (0, 0, 6) := by
  have h1 : ¬ (k : Int) < 0 := by omega
  simp [readS, h, h1, h0, hk]
theorem readS_some {l : List UInt8} {k : Nat} {loose : Bool} (h : ix (l.take 5) = (k : Int)) (hz : loose = true ∨ k = 0 ∨ (l.take 5)[k]? ≠ some 0) : readS l loose = ((valOf ((l.take 5).take (k + 1)) : Int), (k : Int) + 1, 0) := by
  have h1 : ¬ (k : Int) < 0 := by omega
  unfold readS
  simp only [h, h1, if_false, Int.toNat_natCast]
  rw [if_neg]
  rintro ⟨a, b, d⟩
  rcases hz with hz | hz | hz
  · simp [a] at hz
  · exact b (by omega)
  · exact hz d

set_option maxHeartbeats 1000000 in
theorem read_any (A : Option Addr) (n c B : Nat) (l : List UInt8) (loose : Bool) (w : World) (hl : l.length = n) (hn : n ≤ 60000) (hc : n ≤ c) (hb : BS w B A l) :
    Calls Try.prog 47 #[.slice A n c, .bool loose] w fun e w' => e = .returned (tup3 (readS l loose)) ∧ w = w' := by
  have hbp := hb.take_ 5
  have HB := Lib.hid hbp
  clear hbp hb
  rcases ix_cases (l.take 5) with ⟨hix, _⟩ | ⟨k, hk, hix, _, _⟩
  · by_cases h5 : n < 5
    · have hp : (l.take 5).length = n := by rw [List.length_take]; omega
      have HR := Lib.hid (readS_short (loose := loose) hix (by omega))
      have c1 := index_any A n n B (l.take 5) w hp hn HB.out
      rw [hix] at c1
      have C1 := Lib.hid c1
      clear c1 hp hl hix
      go_enter Try.func47, Try.ntmps47
      go_wp2_with (go_at_call 67; (with_reducible refine C1.out.mono ?_); rintro e w' ⟨rfl, rfl⟩)
      go_ret3
      exact ⟨by rw [HR.out]; rfl, rfl⟩
    · have HR := Lib.hid (readS_long (loose := loose) hix (by omega))
      have hp : (l.take 5).length = 5 := by rw [List.length_take]; omega
      have c1 := index_any A 5 5 B (l.take 5) w hp (by omega) HB.out
      rw [hix] at c1
      have C1 := Lib.hid c1
      clear c1 hp hl hix
      by_cases h6 : n = 5
      · subst h6
        go_enter Try.func47, Try.ntmps47
        go_wp2_with (go_at_call 67; (with_reducible refine C1.out.mono ?_); rintro e w' ⟨rfl, rfl⟩)
        go_ret3
        exact ⟨by rw [HR.out]; rfl, rfl⟩
      · have h7 : 5 < n := by omega
        go_enter Try.func47, Try.ntmps47
        go_wp2_with (go_at_call 67; (with_reducible refine C1.out.mono ?_); rintro e w' ⟨rfl, rfl⟩)
        go_ret3
        exact ⟨by rw [HR.out]; rfl, rfl⟩
  · obtain ⟨b, o, rfl, hbB, hcell⟩ := HB.out (by omega)
    have hck := hcell k hk
    clear hcell
    have hk5 : k < 5 := by rw [List.length_take] at hk; omega
    have hkn : k < n := by rw [List.length_take] at hk; omega
    have hx2 : ((l.take 5)[k].toNat : Int) < 256 := by have := (l.take 5)[k].toNat_lt; omega
    have hx0 : 0 ≤ ((l.take 5)[k].toNat : Int) := by omega
    obtain ⟨x, hx⟩ : ∃ x : Int, ((l.take 5)[k].toNat : Int) = x := ⟨_, rfl⟩
    rw [hx] at hck hx2 hx0
    have hz : (l.take 5)[k]? = some 0 ↔ x = 0 := by
      rw [List.getElem?_eq_getElem hk, ← hx]
      constructor
      · intro h
        have h := Option.some.inj h
        rw [h]; rfl
      · intro h
        congr 1
        exact UInt8.toNat_inj.1 (by simpa using h)
    have hvl : ((l.take 5).take (k + 1)).length = k + 1 := by rw [List.length_take]; omega
    have cv := fun c' => value_any (some ⟨b, o, none⟩) (k + 1) c' B ((l.take 5).take (k + 1)) w hvl (by omega) (HB.out.take_ (k + 1))
    have cn := fun c' => normal_any b o (k + 1) c' x w (by omega) (by omega) (by simpa using hck)
    have CV := Lib.hid cv
    have HB0 := HB.out
    clear cv hvl hx hck HB hbB
    obtain ⟨V, hV⟩ : ∃ V : Nat, valOf ((l.take 5).take (k + 1)) = V := ⟨_, rfl⟩
    rw [hV] at CV
    have hpl : (l.take 5).length = (if n ≤ 5 then n else 5) := by rw [List.length_take]; split <;> omega
    have c1 := index_any (some ⟨b, o, none⟩) (l.take 5).length (l.take 5).length B (l.take 5) w rfl (by rw [List.length_take]; omega) HB0
    rw [hpl, hix] at c1
    clear hpl
    rcases (show loose = true ∨ loose = false ∧ (k = 0 ∨ (k ≠ 0 ∧ x ≠ 0) ∨ (k ≠ 0 ∧ x = 0)) by cases loose <;> simp <;> omega) with rfl | ⟨rfl, (hz0 | ⟨hz0, hz1⟩ | ⟨hz0, hz1⟩)⟩
    · have HR := Lib.hid (readS_some (loose := true) hix (.inl rfl))
      rw [hV] at HR
      clear cn hz hV hix hl
      rcases (show (n : Int) ≤ 5 ∨ 5 < (n : Int) by omega) with h5 | h5
      all_goals
        first | rw [if_pos (show n ≤ 5 by omega)] at c1 | rw [if_neg (show ¬ n ≤ 5 by omega)] at c1
        have C1 := Lib.hid c1
        clear c1
        go_enter Try.func47, Try.ntmps47
        go_wp2_with (first | (go_at_call 67; (with_reducible refine C1.out.mono ?_); rintro e w' ⟨rfl, rfl⟩) | (go_at_call 70; (with_reducible refine (CV.out _).mono ?_); rintro e w' ⟨rfl, rfl⟩))
        go_ret3
        exact ⟨by rw [HR.out]; rfl, rfl⟩
    · have HR := Lib.hid (readS_some (loose := false) hix (.inr (.inl hz0)))
      rw [hV] at HR
      have hb1 : (decide (k + 1 = 1) || (x != 0)) = true := by simp [hz0]
      rw [hb1] at cn
      have CN := Lib.hid cn
      clear cn hz hV hix hl hb1 hz0
      rcases (show (n : Int) ≤ 5 ∨ 5 < (n : Int) by omega) with h5 | h5
      all_goals
        first | rw [if_pos (show n ≤ 5 by omega)] at c1 | rw [if_neg (show ¬ n ≤ 5 by omega)] at c1
        have C1 := Lib.hid c1
        clear c1
        go_enter Try.func47, Try.ntmps47
        go_wp2_with (first | (go_at_call 67; (with_reducible refine C1.out.mono ?_); rintro e w' ⟨rfl, rfl⟩) | (go_at_call 69; (with_reducible refine (CN.out _).mono ?_); rintro e w' ⟨rfl, rfl⟩) | (go_at_call 70; (with_reducible refine (CV.out _).mono ?_); rintro e w' ⟨rfl, rfl⟩))
        go_ret3
        exact ⟨by rw [HR.out]; rfl, rfl⟩
    · have HR := Lib.hid (readS_some (loose := false) hix (.inr (.inr (fun e => hz1 (hz.1 e)))))
      rw [hV] at HR
      have hb1 : (decide (k + 1 = 1) || (x != 0)) = true := by simp [hz1]
      rw [hb1] at cn
      have CN := Lib.hid cn
      clear cn hz hV hix hl hb1 hz0 hz1
      rcases (show (n : Int) ≤ 5 ∨ 5 < (n : Int) by omega) with h5 | h5
      all_goals
        first | rw [if_pos (show n ≤ 5 by omega)] at c1 | rw [if_neg (show ¬ n ≤ 5 by omega)] at c1
        have C1 := Lib.hid c1
        clear c1
        go_enter Try.func47, Try.ntmps47
        go_wp2_with (first | (go_at_call 67; (with_reducible refine C1.out.mono ?_); rintro e w' ⟨rfl, rfl⟩) | (go_at_call 69; (with_reducible refine (CN.out _).mono ?_); rintro e w' ⟨rfl, rfl⟩) | (go_at_call 70; (with_reducible refine (CV.out _).mono ?_); rintro e w' ⟨rfl, rfl⟩))
        go_ret3
        exact ⟨by rw [HR.out]; rfl, rfl⟩
    · have HR := Lib.hid (readS_zero hix hz0 (hz.2 hz1))
      have hb1 : (decide (k + 1 = 1) || (x != 0)) = false := by simp [hz0, hz1]
      rw [hb1] at cn
      have CN := Lib.hid cn
      clear cn hz hV hix hl hb1 hz0 hz1
      rcases (show (n : Int) ≤ 5 ∨ 5 < (n : Int) by omega) with h5 | h5
      all_goals
        first | rw [if_pos (show n ≤ 5 by omega)] at c1 | rw [if_neg (show ¬ n ≤ 5 by omega)] at c1
        have C1 := Lib.hid c1
        clear c1
        go_enter Try.func47, Try.ntmps47
        go_wp2_with (first | (go_at_call 67; (with_reducible refine C1.out.mono ?_); rintro e w' ⟨rfl, rfl⟩) | (go_at_call 69; (with_reducible refine (CN.out _).mono ?_); rintro e w' ⟨rfl, rfl⟩) | (go_at_call 70; (with_reducible refine (CV.out _).mono ?_); rintro e w' ⟨rfl, rfl⟩))
        go_ret3
        exact ⟨by rw [HR.out]; rfl, rfl⟩
end Go.Proofs.Ytibkhjpjneoabaa.Vr

/- The walk of SourceCuts. -/
import Derived.Test.YthkpmbgclllnjaaTwo
import Derived.Deep.CutRange
namespace Go.Proofs.Ythkpmbgclllnjaa
open Go.RowKit
set_option linter.unusedVariables false
set_option linter.unusedSimpArgs false

def takes_ (d k : Nat) (all : List UInt8) : List UInt8 := (all.drop d).take k
def TwoR (A1 : Option Addr) (k1 c1 : Nat) (A2 : Option Addr) (k2 c2 : Nat) (l : List UInt8) (W : World) : Prop := RB W A1 k1 c1 l ∧ RB W A2 k2 c2 l
def TwoC (A1 : Option Addr) (k1 c1 : Nat) (A2 : Option Addr) (k2 c2 : Nat) (l m : List UInt8) (b o : Nat) (x : Int) (W : World) : Prop := RB W A1 k1 c1 l ∧ RB W A2 k2 c2 m ∧ W.cell? ⟨b, o, none⟩ = some (.int .u8 x)
/-- Behind a call on both. -/
def CutT (w wx : World) (n bs bt bb ct dt db : Nat) (all : List UInt8) (a16 a17 a18 a19 : Value) : Prop :=
  ∃ (A1 : Option Addr) (k1 c1 : Nat) (A2 : Option Addr) (k2 c2 : Nat) (E : Int) (d : Nat) (v1 v2 : Value) (L : List UInt8), a16 = .slice A1 k1 c1 ∧ a17 = .slice A2 k2 c2 ∧ a18 = .int .i64 E ∧ a19 = .int .i64 E ∧ d ≤ n ∧ RB wx A1 k1 c1 L ∧ RB wx A2 k2 c2 L ∧ Two w wx 1000 ⟨bs, bt, bb, v1, all.drop d, d⟩ ⟨ct, dt, db, v2, all.drop d, d⟩

set_option maxRecDepth 100000 in
set_option maxHeartbeats 4000000 in
theorem cuts_law (A : Option Addr) (n cA : Nat) (all : List UInt8) (X : Option Addr) (m cX : Nat) (chunks : List UInt8) (Y : Option Addr) (p cY : Nat) (takes : List UInt8) (w : World)
    (ha1 : all.length = n) (ha2 : n ≤ cA) (ha3 : cA ≤ maxLen) (ha4 : BS w w.heap.size A all) (ha5 : A = none → cA = 0)
    (hx1 : chunks.length = m) (hx2 : m ≤ cX) (hx3 : cX ≤ maxLen) (hx4 : BS w w.heap.size X chunks) (hx5 : X = none → cX = 0)
    (hy1 : takes.length = p) (hy2 : p ≤ cY) (hy3 : cY ≤ maxLen) (hy4 : BS w w.heap.size Y takes) (hy5 : Y = none → cY = 0) :
    Calls Try.prog 3 #[.slice A n cA, .slice X m cX, .slice Y p cY] w fun e w' => e = .returned (.bool true) ∧ Below w.heap.size w w' := by
  have HA := Lib.hid (show RB w A n cA all from ⟨ha1, ha4.holds ha1, ha2, ha3, ha5⟩)
  have HX := Lib.hid (show RB w X m cX chunks from ⟨hx1, hx4.holds hx1, hx2, hx3, hx5⟩)
  have HY := Lib.hid (show RB w Y p cY takes from ⟨hy1, hy4.holds hy1, hy2, hy3, hy5⟩)
  have BX := Lib.hid hx4
  have BY := Lib.hid hy4
  have KN := Lib.hid (show ∀ W, Below w.heap.size w W → Calls Try.prog 8 #[] W (fun e w' => e = .returned (.bool true) ∧ Below w.heap.size w w') from fun W hb => (known_any W).mono fun e w' ⟨he, hb'⟩ => ⟨he, hb.trans (hb'.mono hb.size)⟩)
  have bA : n ≤ maxLen := Nat.le_trans ha2 ha3
  have bX : m ≤ maxLen := Nat.le_trans hx2 hx3
  have bY : p ≤ maxLen := Nat.le_trans hy2 hy3
  unfold maxLen at bA bX bY
  have bA' : (n : Int) ≤ 9223372036854775807 := by omega
  have bX' : (m : Int) ≤ 9223372036854775807 := by omega
  have bY' : (p : Int) ≤ 9223372036854775807 := by omega
  clear ha1 ha2 ha3 ha4 ha5 hx1 hx2 hx3 hx4 hx5 hy1 hy2 hy3 hy4 hy5 bA bX bY
  by_cases h5 : 500 < (n : Int) ∨ 500 < (m : Int) ∨ 500 < (p : Int)
  · rcases (show (500 < (n : Int)) ∨ (¬ 500 < (n : Int) ∧ 500 < (m : Int)) ∨ (¬ 500 < (n : Int) ∧ ¬ 500 < (m : Int) ∧ 500 < (p : Int)) by omega) with h | ⟨h1, h⟩ | ⟨h1, h2, h⟩
    · have q1 : decide (500 < (n : Int)) = true := by simpa using h
      clear h h5
      go_enter Try.func3, Try.ntmps3
      go_wp2_with (go_at_call 8; (with_reducible refine (KN.out _ (Below.refl _ _)).mono ?_); rintro e w9 ⟨rfl, b9⟩; have B9 := Lib.hid b9; clear b9)
      go_ret
      exact ⟨rfl, B9.out⟩
    · have q1 : decide (500 < (n : Int)) = false := by simpa using h1
      have q2 : decide (500 < (m : Int)) = true := by simpa using h
      clear h h1 h5
      go_enter Try.func3, Try.ntmps3
      go_wp2_with (go_at_call 8; (with_reducible refine (KN.out _ (Below.refl _ _)).mono ?_); rintro e w9 ⟨rfl, b9⟩; have B9 := Lib.hid b9; clear b9)
      go_ret
      exact ⟨rfl, B9.out⟩
    · have q1 : decide (500 < (n : Int)) = false := by simpa using h1
      have q2 : decide (500 < (m : Int)) = false := by simpa using h2
      have q3 : decide (500 < (p : Int)) = true := by simpa using h
      clear h h1 h2 h5
      go_enter Try.func3, Try.ntmps3
      go_wp2_with (go_at_call 8; (with_reducible refine (KN.out _ (Below.refl _ _)).mono ?_); rintro e w9 ⟨rfl, b9⟩; have B9 := Lib.hid b9; clear b9)
      go_ret
      exact ⟨rfl, B9.out⟩
  have q1 : decide (500 < (n : Int)) = false := by simp; omega
  have q2 : decide (500 < (m : Int)) = false := by simp; omega
  have q3 : decide (500 < (p : Int)) = false := by simp; omega
  have HL := Lib.hid (show n ≤ 500 ∧ m ≤ 500 ∧ p ≤ 500 by omega)
  clear h5
  have C0 := Lib.hid (show ∀ W, Calls Try.prog 9 #[.int .i64 1000] W (fun e w' => ∃ bs bt bb, e = .returned (.tuple #[.pointer (some ⟨bs, 0, none⟩), .int .i64 0]) ∧ SS w' W.heap.size bs bt bb (.slice none 0 0) 1000 [] 0 false ∧ Below W.heap.size W w' ∧ W.heap.size ≤ bs ∧ W.heap.size ≤ bt ∧ W.heap.size ≤ bb) from fun W => new_ok 1000 W (by omega) (by omega))
  go_enter Try.func3, Try.ntmps3
  go_wp2_with (go_at_call 9; (with_reducible refine (C0.out _).mono ?_); rintro e w1 ⟨bs, bt, bb, rfl, hs, hb, h1, h2, h3⟩; refine Hid.out ?_)
  refine Lib.hid ?_
  have Y1 := Lib.hid (show YS w w1 bs bt bb (.slice none 0 0) 1000 ([] : List UInt8) 0 false from ⟨hs, h2, h3, hb⟩)
  clear hs hb h1 h2 h3
  go_wp2_with (go_at_call 9; (with_reducible refine (C0.out _).mono ?_); rintro e w2 ⟨ct, dt, db, rfl, hs, hb, h1, h2, h3⟩; refine Hid.out ?_)
  refine Lib.hid ?_
  have T2 := Lib.hid (show Two w w2 1000 ⟨bs, bt, bb, .slice none 0 0, [], 0⟩ ⟨ct, dt, db, .slice none 0 0, [], 0⟩ from by
    have hlt := Y1.out.ss.lt
    have hz := Y1.out.below.size
    refine ⟨Y1.out.over hb, ⟨⟨hs.src, hs.st, hs.buf, own_base hs.own hz, Nat.le_trans hz hs.base, hs.limB, hs.lenB, hs.tkB⟩, Nat.le_trans hz h2, Nat.le_trans hz h3, Y1.out.below.trans (hb.mono hz)⟩, fun k hk ht => ?_, fun k hk ht => ?_⟩
    · have h7 := hlt k hk
      have h8 := SF.ge (s := w1.heap.size) ht h2 h3 (fun j hj => by cases hj)
      omega
    · have h7 := hlt k (.inr ht)
      rcases hk with rfl | hk
      · (try simp at h7); omega
      · have h8 := SF.ge (s := w1.heap.size) hk h2 h3 (fun j hj => by cases hj)
        omega)
  clear hs hb h1 h2 h3
  have C1 := Lib.hid (feed_ok T2.out.a.ss A n cA all (HA.out.below (T2.out.a.below.mono (Nat.le_refl _))) (by have := HL.out; simp; omega))
  go_wp2_with (go_at_call 10; (with_reducible refine C1.out.mono ?_); rintro e w3 ⟨rfl, v3, hs, ho, hh⟩; refine Hid.out ?_)
  refine Lib.hid ?_
  have T3 := Lib.hid (T2.out.step hs ho hh)
  clear hs ho hh
  -- LOOP1
  go_wp2_with fail
  go_loopw [11, 12] (fun aa ii wr => ∃ (at_ i : Nat) (v2 : Value), (at_ : Int) ≤ n ∧ (i : Int) ≤ at_ ∧ aa = .int .i64 at_ ∧ ii = .int .i64 i ∧ Hid (Two w wr 1000 ⟨bs, bt, bb, v3, all, 0⟩ ⟨ct, dt, db, v2, all.take at_, 0⟩)) (fun aa _ _ => n - (intOf aa).toNat)
  case atStart => exact ⟨0, 0, _, by omega, by omega, rfl, rfl, by simpa [Src.at] using T3⟩
  clear T3
  case round =>
    obtain ⟨at_, i, v2, hat, hia, rfl, rfl, HR⟩ := hrel
    have hi0 : (0 : Int) ≤ i := by omega
    have ha0 : (0 : Int) ≤ at_ := by omega
    obtain ⟨wo, rfl⟩ : ∃ wo : World, wo = wr := ⟨_, rfl⟩
    by_cases hlt : (at_ : Int) < n
    · by_cases hm : (i : Int) < m
      · obtain ⟨b, o, rfl, hbX, hcX⟩ := BX.out (by have := HX.out.len; omega)
        have hiX : i < chunks.length := by have := HX.out.len; omega
        have kx := (HR.out.a.below.cell (p := ⟨b, o + i, none⟩) hbX).trans (hcX i hiX)
        obtain ⟨x, hx⟩ : ∃ x : Int, (chunks[i].toNat : Int) = x := ⟨_, rfl⟩
        have hx0 : 0 ≤ x := by omega
        have hx1 : x < 256 := by have := chunks[i].toNat_lt; omega
        rw [hx] at kx
        clear hx hcX hbX
        by_cases hq : 1 + x % 50 ≤ (n : Int) - at_
        · obtain ⟨k, hk⟩ : ∃ k : Nat, 1 + x % 50 = (k : Int) := ⟨(1 + x % 50).toNat, by omega⟩
          have hk2 : (k : Int) ≤ (n : Int) - at_ := by omega
          clear hq
          have HK := Lib.hid (show 1 ≤ k ∧ at_ + k ≤ n by omega)
          obtain ⟨A', c', hsl, hrb, hwi⟩ := slice_in wo A n cA at_ (at_ + k) all (HA.out.below (HR.out.a.below.mono (Nat.le_refl _))) (by omega) (by omega)
          rw [show at_ + k - at_ = k by omega] at hsl hrb
          have hsl' : ∀ W' : World, (Instr.slice 22 (.slice A n cA) (some (.int .i64 (at_ : Int))) (some (.int .i64 ((at_ : Int) + k))) none).run Try.prog W' = .ok (.slice A' k c') W' := fun W' => by have := hsl W'; rw [show ((at_ + k : Nat) : Int) = (at_ : Int) + k by omega] at this; exact this
          have C10 := Lib.hid (show Calls Try.prog 10 #[.pointer (some ⟨ct, 0, none⟩), .slice A' k c'] wo (fun e w' => e = .returned (.int .i64 0) ∧ ∃ v', SS w' w.heap.size ct dt db v' 1000 (all.take at_ ++ (all.take (at_ + k)).drop at_) 0 false ∧ Only (SF dt db v2) wo w' ∧ Hat v2 v' wo) from feed_ok HR.out.b.ss A' k c' _ hrb (by have := HL.out; have := HA.out.len; simp; omega))
          have HLT := Lib.hid hlt
          clear hsl hrb hwi
          go_wp2_with (go_at_call 10; (with_reducible refine C10.out.mono ?_); rintro e w4 ⟨rfl, v4, hs, ho, hh⟩; have T4 := Lib.hid (HR.out.swap.step hs ho hh).swap; clear hs ho hh)
          go_roundw
          case rel =>
            have e1 : all.take at_ ++ (all.take (at_ + k)).drop at_ = all.take (at_ + k) := by
              rw [List.drop_take, show at_ + k - at_ = k by omega, ← List.take_add]
            refine ⟨at_ + k, i + 1, v4, by have := HK.out; omega, by have := HK.out; omega, by go_num, by go_num, Lib.hid ?_⟩
            have := T4.out
            simp only [Src.at] at this
            rw [e1] at this
            exact this
          case measure => have := HK.out; have := HLT.out; simp [intOf]; omega
        · obtain ⟨k, hk⟩ : ∃ k : Nat, (n : Int) - at_ = (k : Int) := ⟨((n : Int) - at_).toNat, by omega⟩
          have hk2 : (k : Int) < 1 + x % 50 := by omega
          clear hq
          have HK := Lib.hid (show 1 ≤ k ∧ at_ + k ≤ n by omega)
          obtain ⟨A', c', hsl, hrb, hwi⟩ := slice_in wo A n cA at_ (at_ + k) all (HA.out.below (HR.out.a.below.mono (Nat.le_refl _))) (by omega) (by omega)
          rw [show at_ + k - at_ = k by omega] at hsl hrb
          have hsl' : ∀ W' : World, (Instr.slice 22 (.slice A n cA) (some (.int .i64 (at_ : Int))) (some (.int .i64 ((at_ : Int) + k))) none).run Try.prog W' = .ok (.slice A' k c') W' := fun W' => by have := hsl W'; rw [show ((at_ + k : Nat) : Int) = (at_ : Int) + k by omega] at this; exact this
          have C10 := Lib.hid (show Calls Try.prog 10 #[.pointer (some ⟨ct, 0, none⟩), .slice A' k c'] wo (fun e w' => e = .returned (.int .i64 0) ∧ ∃ v', SS w' w.heap.size ct dt db v' 1000 (all.take at_ ++ (all.take (at_ + k)).drop at_) 0 false ∧ Only (SF dt db v2) wo w' ∧ Hat v2 v' wo) from feed_ok HR.out.b.ss A' k c' _ hrb (by have := HL.out; have := HA.out.len; simp; omega))
          have HLT := Lib.hid hlt
          clear hsl hrb hwi
          go_wp2_with (go_at_call 10; (with_reducible refine C10.out.mono ?_); rintro e w4 ⟨rfl, v4, hs, ho, hh⟩; have T4 := Lib.hid (HR.out.swap.step hs ho hh).swap; clear hs ho hh)
          go_roundw
          case rel =>
            have e1 : all.take at_ ++ (all.take (at_ + k)).drop at_ = all.take (at_ + k) := by
              rw [List.drop_take, show at_ + k - at_ = k by omega, ← List.take_add]
            refine ⟨at_ + k, i + 1, v4, by have := HK.out; omega, by have := HK.out; omega, by go_num, by go_num, Lib.hid ?_⟩
            have := T4.out
            simp only [Src.at] at this
            rw [e1] at this
            exact this
          case measure => have := HK.out; have := HLT.out; simp [intOf]; omega
      · by_cases hq : (n : Int) ≤ (n : Int) - at_
        · have hza : at_ = 0 := by omega
          have HZA := Lib.hid hza
          clear hza
          have HK := Lib.hid (show 1 ≤ n ∧ at_ + n ≤ n by have := HZA.out; omega)
          obtain ⟨A', c', hsl, hrb, hwi⟩ := slice_in wo A n cA at_ (at_ + n) all (HA.out.below (HR.out.a.below.mono (Nat.le_refl _))) (by have := HZA.out; omega) (by have := HZA.out; omega)
          rw [show at_ + n - at_ = n by have := HZA.out; omega] at hsl hrb
          have hsl' : ∀ W' : World, (Instr.slice 22 (.slice A n cA) (some (.int .i64 (at_ : Int))) (some (.int .i64 ((at_ : Int) + n))) none).run Try.prog W' = .ok (.slice A' n c') W' := fun W' => by have := hsl W'; rw [show ((at_ + n : Nat) : Int) = (at_ : Int) + n by have := HZA.out; omega] at this; exact this
          have C10 := Lib.hid (show Calls Try.prog 10 #[.pointer (some ⟨ct, 0, none⟩), .slice A' n c'] wo (fun e w' => e = .returned (.int .i64 0) ∧ ∃ v', SS w' w.heap.size ct dt db v' 1000 (all.take at_ ++ (all.take (at_ + n)).drop at_) 0 false ∧ Only (SF dt db v2) wo w' ∧ Hat v2 v' wo) from feed_ok HR.out.b.ss A' n c' _ hrb (by have := HL.out; have := HA.out.len; simp; omega))
          have HLT := Lib.hid hlt
          clear hsl hrb hwi
          go_wp2_with (go_at_call 10; (with_reducible refine C10.out.mono ?_); rintro e w4 ⟨rfl, v4, hs, ho, hh⟩; have T4 := Lib.hid (HR.out.swap.step hs ho hh).swap; clear hs ho hh)
          go_roundw
          case rel =>
            have e1 : all.take at_ ++ (all.take (at_ + n)).drop at_ = all.take (at_ + n) := by
              rw [List.drop_take, show at_ + n - at_ = n by have := HZA.out; omega, ← List.take_add]
            refine ⟨at_ + n, i + 1, v4, by have := HK.out; omega, by have := HK.out; omega, by go_num, by go_num, Lib.hid ?_⟩
            have := T4.out
            simp only [Src.at] at this
            rw [e1] at this
            exact this
          case measure => have := HK.out; have := HLT.out; simp [intOf]; omega
        · obtain ⟨k, hk⟩ : ∃ k : Nat, (n : Int) - at_ = (k : Int) := ⟨((n : Int) - at_).toNat, by omega⟩
          have hk2 : (k : Int) < n := by omega
          clear hq
          have HK := Lib.hid (show 1 ≤ k ∧ at_ + k ≤ n by omega)
          obtain ⟨A', c', hsl, hrb, hwi⟩ := slice_in wo A n cA at_ (at_ + k) all (HA.out.below (HR.out.a.below.mono (Nat.le_refl _))) (by omega) (by omega)
          rw [show at_ + k - at_ = k by omega] at hsl hrb
          have hsl' : ∀ W' : World, (Instr.slice 22 (.slice A n cA) (some (.int .i64 (at_ : Int))) (some (.int .i64 ((at_ : Int) + k))) none).run Try.prog W' = .ok (.slice A' k c') W' := fun W' => by have := hsl W'; rw [show ((at_ + k : Nat) : Int) = (at_ : Int) + k by omega] at this; exact this
          have C10 := Lib.hid (show Calls Try.prog 10 #[.pointer (some ⟨ct, 0, none⟩), .slice A' k c'] wo (fun e w' => e = .returned (.int .i64 0) ∧ ∃ v', SS w' w.heap.size ct dt db v' 1000 (all.take at_ ++ (all.take (at_ + k)).drop at_) 0 false ∧ Only (SF dt db v2) wo w' ∧ Hat v2 v' wo) from feed_ok HR.out.b.ss A' k c' _ hrb (by have := HL.out; have := HA.out.len; simp; omega))
          have HLT := Lib.hid hlt
          clear hsl hrb hwi
          go_wp2_with (go_at_call 10; (with_reducible refine C10.out.mono ?_); rintro e w4 ⟨rfl, v4, hs, ho, hh⟩; have T4 := Lib.hid (HR.out.swap.step hs ho hh).swap; clear hs ho hh)
          go_roundw
          case rel =>
            have e1 : all.take at_ ++ (all.take (at_ + k)).drop at_ = all.take (at_ + k) := by
              rw [List.drop_take, show at_ + k - at_ = k by omega, ← List.take_add]
            refine ⟨at_ + k, i + 1, v4, by have := HK.out; omega, by have := HK.out; omega, by go_num, by go_num, Lib.hid ?_⟩
            have := T4.out
            simp only [Src.at] at this
            rw [e1] at this
            exact this
          case measure => have := HK.out; have := HLT.out; simp [intOf]; omega
    · have HAT := Lib.hid (show at_ = n by omega)
      have T5 := Lib.hid (show Two w wo 1000 ⟨bs, bt, bb, v3, all.drop 0, 0⟩ ⟨ct, dt, db, v2, all.drop 0, 0⟩ from by
        have := HR.out
        rw [HAT.out, List.take_of_length_le (by have := HA.out.len; omega)] at this
        exact this)
      clear HR C1 Y1 T2
      go_wp2_with fail
      go_loopw [14, 15] (fun dd ii wr => ∃ (d i : Nat) (v1 v2 : Value), (i : Int) ≤ p ∧ dd = .int .i64 d ∧ ii = .int .i64 i ∧ Hid (d ≤ n ∧ Two w wr 1000 ⟨bs, bt, bb, v1, all.drop d, d⟩ ⟨ct, dt, db, v2, all.drop d, d⟩)) (fun _ ii _ => p - (intOf ii).toNat)
      case atStart => exact ⟨0, 0, v3, v2, by omega, rfl, rfl, Lib.hid ⟨Nat.zero_le _, T5.out⟩⟩
      clear T5 HAT hat hia hi0 ha0 hlt
      case round =>
        obtain ⟨d, i, v1, v2, hip, rfl, rfl, HR⟩ := hrel
        have hi0 : (0 : Int) ≤ i := by omega
        have hd0 : (0 : Int) ≤ d := by omega
        obtain ⟨wo, rfl⟩ : ∃ wo : World, wo = wr := ⟨_, rfl⟩
        have HLD := Lib.hid (show (all.drop d).length = n - d by rw [List.length_drop, HA.out.len])
        have HDN := Lib.hid (show d + (all.drop d).length ≤ 4000000000 by have := HLD.out; have := HR.out.1; have := HL.out; omega)
        by_cases hlt : (i : Int) < p
        · obtain ⟨b, o, hYe, hbY, hcY⟩ := BY.out (by have := HY.out.len; omega)
          subst hYe
          have hiY : i < takes.length := by have := HY.out.len; omega
          have ky := (HR.out.2.a.below.cell (p := ⟨b, o + i, none⟩) hbY).trans (hcY i hiY)
          obtain ⟨y, hy⟩ : ∃ y : UInt8, takes[i] = y := ⟨_, rfl⟩
          obtain ⟨x, hx⟩ : ∃ x : Int, (y.toNat : Int) = x := ⟨_, rfl⟩
          have HXY := Lib.hid hx
          have hx0 : 0 ≤ x := by omega
          have hx1 : x < 256 := by have := y.toNat_lt; omega
          rw [hy, hx] at ky
          have HKY := Lib.hid (show ∀ W, Below w.heap.size w W → W.cell? ⟨b, o + i, none⟩ = some (.int .u8 x) from fun W hb => (hb.cell (p := ⟨b, o + i, none⟩) hbY).trans (by have := hcY i hiY; rw [hy, hx] at this; exact this))
          have HLT := Lib.hid hlt
          clear hx hy hcY hbY
          go_upto_if 105 with fail
          go_cut [16, 17, 18, 19] from 94 to 222 (fun a16 a17 a18 a19 wx => CutT w wx n bs bt bb ct dt db all a16 a17 a18 a19)
          case first =>
            by_cases he : x % 2 = 0
            · obtain ⟨k, hk⟩ : ∃ k : Nat, x % 20 = (k : Int) := ⟨(x % 20).toNat, by omega⟩
              have HK := Lib.hid (show k < 20 by omega)
              by_cases hkl : k ≤ (all.drop d).length
              · have C1 := Lib.hid (show Calls Try.prog 11 #[.pointer (some ⟨bs, 0, none⟩), .int .i64 k] wo (fun e w' => ∃ A c v', e = .returned (.tuple #[.slice A k c, .int .i64 0]) ∧ Tk2 w wo w' 1000 ⟨bs, bt, bb, v1, all.drop d, d⟩ ⟨ct, dt, db, v2, all.drop d, d⟩ A c k k v') from HR.out.2.take_ok HDN.out k hkl)
                have HKL := Lib.hid hkl
                clear hkl
                go_wp2_with (first
                  | (go_at_call 11; (with_reducible refine C1.out.mono ?_); rintro e w4 ⟨A1, c1, v3', rfl, ht⟩; have TK := Lib.hid ht; clear ht; have C2 := Lib.hid (show Calls Try.prog 11 #[.pointer (some ⟨ct, 0, none⟩), .int .i64 k] w4 (fun e w' => ∃ A c v', e = .returned (.tuple #[.slice A k c, .int .i64 0]) ∧ Tk2 w w4 w' 1000 ⟨ct, dt, db, v2, all.drop d, d⟩ ⟨bs, bt, bb, v3', (all.drop d).drop k, d + k⟩ A c k k v') from TK.out.two.swap.take_ok HDN.out k HKL.out))
                  | (go_at_call 11; (with_reducible refine C2.out.mono ?_); rintro e wq ⟨A2, c2, v4', rfl, ht⟩; have TL := Lib.hid ht; clear ht))
                obtain ⟨A', c', hsl, hrb, -⟩ := slice_in wq A n cA d (d + k) all (HA.out.below (TL.out.two.a.below.mono (Nat.le_refl _))) (by omega) (by have := HKL.out; have := HLD.out; have := HR.out.1; omega)
                rw [show d + k - d = k by omega, List.drop_take, show d + k - d = k by omega] at hrb
                rw [show d + k - d = k by omega] at hsl
                have HSL := Lib.hid (show ∀ W' : World, (Instr.slice 22 (.slice A n cA) (some (.int .i64 (d : Int))) (some (.int .i64 ((d : Int) + k))) none).run Try.prog W' = .ok (.slice A' k c') W' from fun W' => by have := hsl W'; rw [show ((d + k : Nat) : Int) = (d : Int) + k by omega] at this; exact this)
                have RB1 := Lib.hid (TK.out.over TL.out.only)
                have HS8 := Lib.hid (show TwoR A1 k c1 A' k c' (takes_ d k all) wq.drew from ⟨RB1.out.below (below_drew (Below.refl _ _)), hrb.below (below_drew (Below.refl _ _))⟩)
                obtain ⟨Sx, hSx⟩ : ∃ Sx : ByteArray, ⟨(takes_ d k all).toArray⟩ = Sx := ⟨_, rfl⟩
                have HSX := Lib.hid hSx
                have HWR := Lib.hid (show IntKind.i64.wrap ((d : Int) + k) = (d : Int) + k from by have := HKL.out; have := HLD.out; have := HR.out.1; have := HL.out; rw [IntKind.wrap_i64]; omega)
                have hk0 : (0 : Int) ≤ k := by omega
                have hdk : (d : Int) + k ≤ 500 := by have := HKL.out; have := HLD.out; have := HR.out.1; have := HL.out; omega
                clear hsl hrb hSx hk he
                refine wp_region_G (S0 := (TwoR A1 k c1 A' k c' (takes_ d k all))) (S1 := (TwoR A1 k c1 A' k c' (takes_ d k all))) (c := 99) (by kernel_rfl) ?_
                have hHeld := HS8.out
                have h01 := (fun (W : World) (h : (TwoR A1 k c1 A' k c' (takes_ d k all)) W) => h)
                refine wpG_takeB (i := 0) (oi := ⟨some 124, _, _, _, _, _⟩) (v := .int .i64 0) rfl (by kernel_rfl) (by kernel_rfl) (by kernel_rfl) (by decide) (fun _ _ _ h => h) h01 rfl hHeld (Or.inl ⟨by rfl, ?_⟩) ?_
                · (intro W9 hSw; obtain ⟨v1, v2⟩ := hSw; have hca := conv_RB v1; rw [HSX.out] at hca; have hcb := conv_RB v2; rw [HSX.out] at hcb; have hsl := HSL.out; clear v1 v2; go_simp; (try (first | with_reducible rfl | rfl | (rw [HWR.out]; done) | (rw [HWR2.out]; done) | (simp; done))))
                try simp only [Act.put, List.setIfInBounds_toArray, List.set_cons_zero, List.set_cons_succ]
                refine wpG_takeB (i := 1) (oi := ⟨some 125, _, _, _, _, _⟩) (v := .bool true) rfl (by kernel_rfl) (by kernel_rfl) (by kernel_rfl) (by decide) (fun _ _ _ h => h) h01 rfl hHeld (Or.inl ⟨by rfl, ?_⟩) ?_
                · (intro W9 hSw; obtain ⟨v1, v2⟩ := hSw; have hca := conv_RB v1; rw [HSX.out] at hca; have hcb := conv_RB v2; rw [HSX.out] at hcb; have hsl := HSL.out; clear v1 v2; go_simp; (try (first | with_reducible rfl | rfl | (rw [HWR.out]; done) | (rw [HWR2.out]; done) | (simp; done))))
                try simp only [Act.put, List.setIfInBounds_toArray, List.set_cons_zero, List.set_cons_succ]
                refine wpG_takeB (i := 2) (oi := ⟨some 126, _, _, _, _, _⟩) (v := .bool true) rfl (by kernel_rfl) (by kernel_rfl) (by kernel_rfl) (by decide) (fun _ _ _ h => h) h01 rfl hHeld (Or.inl ⟨by rfl, ?_⟩) ?_
                · (intro W9 hSw; obtain ⟨v1, v2⟩ := hSw; have hca := conv_RB v1; rw [HSX.out] at hca; have hcb := conv_RB v2; rw [HSX.out] at hcb; have hsl := HSL.out; clear v1 v2; go_simp; (try (first | with_reducible rfl | rfl | (rw [HWR.out]; done) | (rw [HWR2.out]; done) | (simp; done))))
                try simp only [Act.put, List.setIfInBounds_toArray, List.set_cons_zero, List.set_cons_succ]
                refine wpG_takeB (i := 3) (oi := ⟨some 127, _, _, _, _, _⟩) (v := .slice A1 k c1) rfl (by kernel_rfl) (by kernel_rfl) (by kernel_rfl) (by decide) (fun _ _ _ h => h) h01 rfl hHeld (Or.inl ⟨by rfl, ?_⟩) ?_
                · (intro W9 hSw; obtain ⟨v1, v2⟩ := hSw; have hca := conv_RB v1; rw [HSX.out] at hca; have hcb := conv_RB v2; rw [HSX.out] at hcb; have hsl := HSL.out; clear v1 v2; go_simp; (try (first | with_reducible rfl | rfl | (rw [HWR.out]; done) | (rw [HWR2.out]; done) | (simp; done))))
                try simp only [Act.put, List.setIfInBounds_toArray, List.set_cons_zero, List.set_cons_succ]
                refine wpG_takeB (i := 4) (oi := ⟨some 128, _, _, _, _, _⟩) (v := .string Sx) rfl (by kernel_rfl) (by kernel_rfl) (by kernel_rfl) (by decide) (fun _ _ _ h => h) h01 rfl hHeld (Or.inl ⟨by rfl, ?_⟩) ?_
                · (intro W9 hSw; obtain ⟨v1, v2⟩ := hSw; have hca := conv_RB v1; rw [HSX.out] at hca; have hcb := conv_RB v2; rw [HSX.out] at hcb; have hsl := HSL.out; clear v1 v2; go_simp; (try (first | with_reducible rfl | rfl | (rw [HWR.out]; done) | (rw [HWR2.out]; done) | (simp; done))))
                try simp only [Act.put, List.setIfInBounds_toArray, List.set_cons_zero, List.set_cons_succ]
                refine wpG_takeB (i := 5) (oi := ⟨some 129, _, _, _, _, _⟩) (v := .slice A n cA) rfl (by kernel_rfl) (by kernel_rfl) (by kernel_rfl) (by decide) (fun _ _ _ h => h) h01 rfl hHeld (Or.inl ⟨by rfl, ?_⟩) ?_
                · (intro W9 hSw; obtain ⟨v1, v2⟩ := hSw; have hca := conv_RB v1; rw [HSX.out] at hca; have hcb := conv_RB v2; rw [HSX.out] at hcb; have hsl := HSL.out; clear v1 v2; go_simp; (try (first | with_reducible rfl | rfl | (rw [HWR.out]; done) | (rw [HWR2.out]; done) | (simp; done))))
                try simp only [Act.put, List.setIfInBounds_toArray, List.set_cons_zero, List.set_cons_succ]
                refine wpG_takeB (i := 6) (oi := ⟨some 130, _, _, _, _, _⟩) (v := .int .i64 (d : Int)) rfl (by kernel_rfl) (by kernel_rfl) (by kernel_rfl) (by decide) (fun _ _ _ h => h) h01 rfl hHeld (Or.inl ⟨by rfl, ?_⟩) ?_
                · (intro W9 hSw; obtain ⟨v1, v2⟩ := hSw; have hca := conv_RB v1; rw [HSX.out] at hca; have hcb := conv_RB v2; rw [HSX.out] at hcb; have hsl := HSL.out; clear v1 v2; go_simp; (try (first | with_reducible rfl | rfl | (rw [HWR.out]; done) | (rw [HWR2.out]; done) | (simp; done))))
                try simp only [Act.put, List.setIfInBounds_toArray, List.set_cons_zero, List.set_cons_succ]
                refine wpG_takeB (i := 7) (oi := ⟨some 131, _, _, _, _, _⟩) (v := .int .i64 (d : Int)) rfl (by kernel_rfl) (by kernel_rfl) (by kernel_rfl) (by decide) (fun _ _ _ h => h) h01 rfl hHeld (Or.inl ⟨by rfl, ?_⟩) ?_
                · (intro W9 hSw; obtain ⟨v1, v2⟩ := hSw; have hca := conv_RB v1; rw [HSX.out] at hca; have hcb := conv_RB v2; rw [HSX.out] at hcb; have hsl := HSL.out; clear v1 v2; go_simp; (try (first | with_reducible rfl | rfl | (rw [HWR.out]; done) | (rw [HWR2.out]; done) | (simp; done))))
                try simp only [Act.put, List.setIfInBounds_toArray, List.set_cons_zero, List.set_cons_succ]
                refine wpG_takeB (i := 8) (oi := ⟨some 132, _, _, _, _, _⟩) (v := .slice A1 k c1) rfl (by kernel_rfl) (by kernel_rfl) (by kernel_rfl) (by decide) (fun _ _ _ h => h) h01 rfl hHeld (Or.inl ⟨by rfl, ?_⟩) ?_
                · (intro W9 hSw; obtain ⟨v1, v2⟩ := hSw; have hca := conv_RB v1; rw [HSX.out] at hca; have hcb := conv_RB v2; rw [HSX.out] at hcb; have hsl := HSL.out; clear v1 v2; go_simp; (try (first | with_reducible rfl | rfl | (rw [HWR.out]; done) | (rw [HWR2.out]; done) | (simp; done))))
                try simp only [Act.put, List.setIfInBounds_toArray, List.set_cons_zero, List.set_cons_succ]
                refine wpG_takeB (i := 9) (oi := ⟨some 133, _, _, _, _, _⟩) (v := .int .i64 (k : Int)) rfl (by kernel_rfl) (by kernel_rfl) (by kernel_rfl) (by decide) (fun _ _ _ h => h) h01 rfl hHeld (Or.inl ⟨by rfl, ?_⟩) ?_
                · (intro W9 hSw; obtain ⟨v1, v2⟩ := hSw; have hca := conv_RB v1; rw [HSX.out] at hca; have hcb := conv_RB v2; rw [HSX.out] at hcb; have hsl := HSL.out; clear v1 v2; go_simp; (try (first | with_reducible rfl | rfl | (rw [HWR.out]; done) | (rw [HWR2.out]; done) | (simp; done))))
                try simp only [Act.put, List.setIfInBounds_toArray, List.set_cons_zero, List.set_cons_succ]
                refine wpG_takeB (i := 10) (oi := ⟨some 134, _, _, _, _, _⟩) (v := .int .i64 ((d : Int) + k)) rfl (by kernel_rfl) (by kernel_rfl) (by kernel_rfl) (by decide) (fun _ _ _ h => h) h01 rfl hHeld (Or.inl ⟨by rfl, ?_⟩) ?_
                · (intro W9 hSw; obtain ⟨v1, v2⟩ := hSw; have hca := conv_RB v1; rw [HSX.out] at hca; have hcb := conv_RB v2; rw [HSX.out] at hcb; have hsl := HSL.out; clear v1 v2; go_simp; (try (first | with_reducible rfl | rfl | (rw [HWR.out]; done) | (rw [HWR2.out]; done) | (simp; done))))
                try simp only [Act.put, List.setIfInBounds_toArray, List.set_cons_zero, List.set_cons_succ]
                refine wpG_takeB (i := 11) (oi := ⟨some 135, _, _, _, _, _⟩) (v := .slice A' k c') rfl (by kernel_rfl) (by kernel_rfl) (by kernel_rfl) (by decide) (fun _ _ _ h => h) h01 rfl hHeld (Or.inl ⟨by rfl, ?_⟩) ?_
                · (intro W9 hSw; obtain ⟨v1, v2⟩ := hSw; have hca := conv_RB v1; rw [HSX.out] at hca; have hcb := conv_RB v2; rw [HSX.out] at hcb; have hsl := HSL.out; clear v1 v2; go_simp; (try (first | with_reducible rfl | rfl | (rw [HWR.out]; done) | (rw [HWR2.out]; done) | (simp; done))))
                try simp only [Act.put, List.setIfInBounds_toArray, List.set_cons_zero, List.set_cons_succ]
                refine wpG_takeB (i := 12) (oi := ⟨some 136, _, _, _, _, _⟩) (v := .string Sx) rfl (by kernel_rfl) (by kernel_rfl) (by kernel_rfl) (by decide) (fun _ _ _ h => h) h01 rfl hHeld (Or.inl ⟨by rfl, ?_⟩) ?_
                · (intro W9 hSw; obtain ⟨v1, v2⟩ := hSw; have hca := conv_RB v1; rw [HSX.out] at hca; have hcb := conv_RB v2; rw [HSX.out] at hcb; have hsl := HSL.out; clear v1 v2; go_simp; (try (first | with_reducible rfl | rfl | (rw [HWR.out]; done) | (rw [HWR2.out]; done) | (simp; done))))
                try simp only [Act.put, List.setIfInBounds_toArray, List.set_cons_zero, List.set_cons_succ]
                refine wpG_takeB (i := 13) (oi := ⟨some 137, _, _, _, _, _⟩) (v := .bool false) rfl (by kernel_rfl) (by kernel_rfl) (by kernel_rfl) (by decide) (fun _ _ _ h => h) h01 rfl hHeld (Or.inl ⟨by rfl, ?_⟩) ?_
                · (intro W9 hSw; obtain ⟨v1, v2⟩ := hSw; have hca := conv_RB v1; rw [HSX.out] at hca; have hcb := conv_RB v2; rw [HSX.out] at hcb; have hsl := HSL.out; clear v1 v2; go_simp; (try (first | with_reducible rfl | rfl | (rw [HWR.out]; done) | (rw [HWR2.out]; done) | (simp; done))))
                try simp only [Act.put, List.setIfInBounds_toArray, List.set_cons_zero, List.set_cons_succ]
                refine wpG_takeB (i := 14) (oi := ⟨some 138, _, _, _, _, _⟩) (v := .bool false) rfl (by kernel_rfl) (by kernel_rfl) (by kernel_rfl) (by decide) (fun _ _ _ h => h) h01 rfl hHeld (Or.inl ⟨by rfl, ?_⟩) ?_
                · (intro W9 hSw; obtain ⟨v1, v2⟩ := hSw; have hca := conv_RB v1; rw [HSX.out] at hca; have hcb := conv_RB v2; rw [HSX.out] at hcb; have hsl := HSL.out; clear v1 v2; go_simp; (try (first | with_reducible rfl | rfl | (rw [HWR.out]; done) | (rw [HWR2.out]; done) | (simp; done))))
                try simp only [Act.put, List.setIfInBounds_toArray, List.set_cons_zero, List.set_cons_succ]
                refine wpG_done (by kernel_rfl) ?_ _
                go_wp2_with fail
                go_meet
                case rel => exact ⟨A1, k, c1, A2, k, c2, 0, d + k, v3', v4', _, rfl, rfl, rfl, rfl, by have := HKL.out; have := HLD.out; have := HR.out.1; omega, RB1.out.below (below_drew (Below.refl _ _)), TL.out.rb.below (below_drew (Below.refl _ _)), by have := (TL.out.two.swap).over (below_drew (Below.refl _ _)); simp only [Src.at, List.drop_drop] at this; exact this⟩
              · have HE := Lib.hid (show peekE 1000 false (all.drop d) (k : Int) = 4 from by have := HK.out; unfold peekE; rw [if_neg (by omega), if_neg (by omega), if_pos (by omega)]; rfl)
                have C1 := Lib.hid (show Calls Try.prog 11 #[.pointer (some ⟨bs, 0, none⟩), .int .i64 k] wo (fun e w' => e = .returned (.tuple #[.slice none 0 0, .int .i64 4]) ∧ Below wo.heap.size wo w') from by have := take_bad HR.out.2.a.ss k (by rw [HE.out]; decide); rw [HE.out] at this; exact this)
                clear hkl
                go_wp2_with (first
                  | (go_at_call 11; (with_reducible refine C1.out.mono ?_); rintro e w4 ⟨rfl, hb⟩; have T4 := Lib.hid (HR.out.2.over hb); clear hb; have C2 := Lib.hid (show Calls Try.prog 11 #[.pointer (some ⟨ct, 0, none⟩), .int .i64 k] w4 (fun e w' => e = .returned (.tuple #[.slice none 0 0, .int .i64 4]) ∧ Below w4.heap.size w4 w') from by have := take_bad T4.out.b.ss k (by rw [HE.out]; decide); rw [HE.out] at this; exact this))
                  | (go_at_call 11; (with_reducible refine C2.out.mono ?_); rintro e wq ⟨rfl, hb⟩; have T5 := Lib.hid (T4.out.over hb); clear hb))
                clear hk he
                refine wp_region_G (S0 := (fun _ => True)) (S1 := (fun _ => True)) (c := 99) (by kernel_rfl) ?_
                have hHeld := trivial
                have h01 := (fun (W : World) (h : (fun _ => True) W) => h)
                refine wpG_takeB (i := 0) (oi := ⟨some 124, _, _, _, _, _⟩) (v := .int .i64 4) rfl (by kernel_rfl) (by kernel_rfl) (by kernel_rfl) (by decide) (fun _ _ _ h => h) h01 rfl hHeld (Or.inl ⟨by rfl, ?_⟩) ?_
                · (intro W9 hSw; go_simp; (try (first | with_reducible rfl | rfl | (rw [HWR.out]; done) | (rw [HWR2.out]; done) | (simp; done))))
                try simp only [Act.put, List.setIfInBounds_toArray, List.set_cons_zero, List.set_cons_succ]
                refine wpG_takeB (i := 1) (oi := ⟨some 125, _, _, _, _, _⟩) (v := .bool false) rfl (by kernel_rfl) (by kernel_rfl) (by kernel_rfl) (by decide) (fun _ _ _ h => h) h01 rfl hHeld (Or.inl ⟨by rfl, ?_⟩) ?_
                · (intro W9 hSw; go_simp; (try (first | with_reducible rfl | rfl | (rw [HWR.out]; done) | (rw [HWR2.out]; done) | (simp; done))))
                try simp only [Act.put, List.setIfInBounds_toArray, List.set_cons_zero, List.set_cons_succ]
                refine wpG_takeB (i := 2) (oi := ⟨some 126, _, _, _, _, _⟩) (v := .bool false) rfl (by kernel_rfl) (by kernel_rfl) (by kernel_rfl) (by decide) (fun _ _ _ h => h) h01 rfl hHeld (Or.inl ⟨by rfl, ?_⟩) ?_
                · (intro W9 hSw; go_simp; (try (first | with_reducible rfl | rfl | (rw [HWR.out]; done) | (rw [HWR2.out]; done) | (simp; done))))
                try simp only [Act.put, List.setIfInBounds_toArray, List.set_cons_zero, List.set_cons_succ]
                refine wpG_takeB (i := 3) (oi := ⟨some 127, _, _, _, _, _⟩) (v := undef) rfl (by kernel_rfl) (by kernel_rfl) (by kernel_rfl) (by decide) (fun _ _ _ h => h) h01 rfl hHeld (Or.inr ⟨by rfl, rfl⟩) ?_
                try simp only [Act.put, List.setIfInBounds_toArray, List.set_cons_zero, List.set_cons_succ]
                refine wpG_takeB (i := 4) (oi := ⟨some 128, _, _, _, _, _⟩) (v := undef) rfl (by kernel_rfl) (by kernel_rfl) (by kernel_rfl) (by decide) (fun _ _ _ h => h) h01 rfl hHeld (Or.inr ⟨by rfl, rfl⟩) ?_
                try simp only [Act.put, List.setIfInBounds_toArray, List.set_cons_zero, List.set_cons_succ]
                refine wpG_takeB (i := 5) (oi := ⟨some 129, _, _, _, _, _⟩) (v := undef) rfl (by kernel_rfl) (by kernel_rfl) (by kernel_rfl) (by decide) (fun _ _ _ h => h) h01 rfl hHeld (Or.inr ⟨by rfl, rfl⟩) ?_
                try simp only [Act.put, List.setIfInBounds_toArray, List.set_cons_zero, List.set_cons_succ]
                refine wpG_takeB (i := 6) (oi := ⟨some 130, _, _, _, _, _⟩) (v := undef) rfl (by kernel_rfl) (by kernel_rfl) (by kernel_rfl) (by decide) (fun _ _ _ h => h) h01 rfl hHeld (Or.inr ⟨by rfl, rfl⟩) ?_
                try simp only [Act.put, List.setIfInBounds_toArray, List.set_cons_zero, List.set_cons_succ]
                refine wpG_takeB (i := 7) (oi := ⟨some 131, _, _, _, _, _⟩) (v := undef) rfl (by kernel_rfl) (by kernel_rfl) (by kernel_rfl) (by decide) (fun _ _ _ h => h) h01 rfl hHeld (Or.inr ⟨by rfl, rfl⟩) ?_
                try simp only [Act.put, List.setIfInBounds_toArray, List.set_cons_zero, List.set_cons_succ]
                refine wpG_takeB (i := 8) (oi := ⟨some 132, _, _, _, _, _⟩) (v := undef) rfl (by kernel_rfl) (by kernel_rfl) (by kernel_rfl) (by decide) (fun _ _ _ h => h) h01 rfl hHeld (Or.inr ⟨by rfl, rfl⟩) ?_
                try simp only [Act.put, List.setIfInBounds_toArray, List.set_cons_zero, List.set_cons_succ]
                refine wpG_takeB (i := 9) (oi := ⟨some 133, _, _, _, _, _⟩) (v := undef) rfl (by kernel_rfl) (by kernel_rfl) (by kernel_rfl) (by decide) (fun _ _ _ h => h) h01 rfl hHeld (Or.inr ⟨by rfl, rfl⟩) ?_
                try simp only [Act.put, List.setIfInBounds_toArray, List.set_cons_zero, List.set_cons_succ]
                refine wpG_takeB (i := 10) (oi := ⟨some 134, _, _, _, _, _⟩) (v := undef) rfl (by kernel_rfl) (by kernel_rfl) (by kernel_rfl) (by decide) (fun _ _ _ h => h) h01 rfl hHeld (Or.inr ⟨by rfl, rfl⟩) ?_
                try simp only [Act.put, List.setIfInBounds_toArray, List.set_cons_zero, List.set_cons_succ]
                refine wpG_takeB (i := 11) (oi := ⟨some 135, _, _, _, _, _⟩) (v := undef) rfl (by kernel_rfl) (by kernel_rfl) (by kernel_rfl) (by decide) (fun _ _ _ h => h) h01 rfl hHeld (Or.inr ⟨by rfl, rfl⟩) ?_
                try simp only [Act.put, List.setIfInBounds_toArray, List.set_cons_zero, List.set_cons_succ]
                refine wpG_takeB (i := 12) (oi := ⟨some 136, _, _, _, _, _⟩) (v := undef) rfl (by kernel_rfl) (by kernel_rfl) (by kernel_rfl) (by decide) (fun _ _ _ h => h) h01 rfl hHeld (Or.inr ⟨by rfl, rfl⟩) ?_
                try simp only [Act.put, List.setIfInBounds_toArray, List.set_cons_zero, List.set_cons_succ]
                refine wpG_takeB (i := 13) (oi := ⟨some 137, _, _, _, _, _⟩) (v := undef) rfl (by kernel_rfl) (by kernel_rfl) (by kernel_rfl) (by decide) (fun _ _ _ h => h) h01 rfl hHeld (Or.inr ⟨by rfl, rfl⟩) ?_
                try simp only [Act.put, List.setIfInBounds_toArray, List.set_cons_zero, List.set_cons_succ]
                refine wpG_takeB (i := 14) (oi := ⟨some 138, _, _, _, _, _⟩) (v := .bool false) rfl (by kernel_rfl) (by kernel_rfl) (by kernel_rfl) (by decide) (fun _ _ _ h => h) h01 rfl hHeld (Or.inl ⟨by rfl, ?_⟩) ?_
                · (intro W9 hSw; go_simp; (try (first | with_reducible rfl | rfl | (rw [HWR.out]; done) | (rw [HWR2.out]; done) | (simp; done))))
                try simp only [Act.put, List.setIfInBounds_toArray, List.set_cons_zero, List.set_cons_succ]
                refine wpG_done (by kernel_rfl) ?_ _
                go_wp2_with fail
                go_meet
                case rel => exact ⟨none, 0, 0, none, 0, 0, 4, d, v1, v2, _, rfl, rfl, rfl, rfl, HR.out.1, RB.nil _, RB.nil _, T5.out.over (below_drew (Below.refl _ _))⟩
            · have HLD30 : (30 : Int) < 1000 := by omega
              by_cases hat : atB (all.drop d) y 30 < 0
              · obtain ⟨E, hE⟩ : ∃ E : Int, untilE 1000 false (all.drop d) y 30 = E := ⟨_, rfl⟩
                have hE0 : E = 5 ∨ E = 4 := by
                  rw [← hE]; unfold untilE; rw [if_neg (by omega), if_neg (by omega), if_pos hat]; split
                  · exact .inl rfl
                  · exact .inr rfl
                have C1 := Lib.hid (show Calls Try.prog 12 #[.pointer (some ⟨bs, 0, none⟩), .int .u8 x, .int .i64 30] wo (fun e w' => e = .returned (.tuple #[.slice none 0 0, .int .i64 E]) ∧ Below wo.heap.size wo w') from by have := until_bad HR.out.2.a.ss y 30 (by rw [hE]; omega); rw [hE, HXY.out] at this; exact this)
                have C2 := Lib.hid (show ∀ w4, Two w w4 1000 ⟨bs, bt, bb, v1, all.drop d, d⟩ ⟨ct, dt, db, v2, all.drop d, d⟩ → Calls Try.prog 12 #[.pointer (some ⟨ct, 0, none⟩), .int .u8 x, .int .i64 30] w4 (fun e w' => e = .returned (.tuple #[.slice none 0 0, .int .i64 E]) ∧ Below w4.heap.size w4 w') from fun w4 h4 => by have := until_bad h4.b.ss y 30 (by rw [hE]; omega); rw [hE, HXY.out] at this; exact this)
                clear hat hE
                rcases hE0 with rfl | rfl
                · go_wp2_with (first
                    | (go_at_call 12; (with_reducible refine C1.out.mono ?_); rintro e w4 ⟨rfl, hb⟩; have T4 := Lib.hid (HR.out.2.over hb); clear hb ky; have ky := HKY.out w4 T4.out.a.below)
                    | (go_at_call 12; (with_reducible refine (C2.out _ T4.out).mono ?_); rintro e wq ⟨rfl, hb⟩; have T5 := Lib.hid (T4.out.over hb); clear hb))
                  clear he ky
                  refine wp_region_G (S0 := (fun _ => True)) (S1 := (fun _ => True)) (c := 99) (by kernel_rfl) ?_
                  have hHeld := trivial
                  have h01 := (fun (W : World) (h : (fun _ => True) W) => h)
                  refine wpG_takeB (i := 0) (oi := ⟨some 157, _, _, _, _, _⟩) (v := .int .i64 5) rfl (by kernel_rfl) (by kernel_rfl) (by kernel_rfl) (by decide) (fun _ _ _ h => h) h01 rfl hHeld (Or.inl ⟨by rfl, ?_⟩) ?_
                  · (intro W9 hSw; go_simp; (try (first | with_reducible rfl | rfl | (rw [HWR.out]; done) | (rw [HWR2.out]; done) | (simp; done))))
                  try simp only [Act.put, List.setIfInBounds_toArray, List.set_cons_zero, List.set_cons_succ]
                  refine wpG_takeB (i := 1) (oi := ⟨some 158, _, _, _, _, _⟩) (v := .bool false) rfl (by kernel_rfl) (by kernel_rfl) (by kernel_rfl) (by decide) (fun _ _ _ h => h) h01 rfl hHeld (Or.inl ⟨by rfl, ?_⟩) ?_
                  · (intro W9 hSw; go_simp; (try (first | with_reducible rfl | rfl | (rw [HWR.out]; done) | (rw [HWR2.out]; done) | (simp; done))))
                  try simp only [Act.put, List.setIfInBounds_toArray, List.set_cons_zero, List.set_cons_succ]
                  refine wpG_takeB (i := 2) (oi := ⟨some 159, _, _, _, _, _⟩) (v := .bool false) rfl (by kernel_rfl) (by kernel_rfl) (by kernel_rfl) (by decide) (fun _ _ _ h => h) h01 rfl hHeld (Or.inl ⟨by rfl, ?_⟩) ?_
                  · (intro W9 hSw; go_simp; (try (first | with_reducible rfl | rfl | (rw [HWR.out]; done) | (rw [HWR2.out]; done) | (simp; done))))
                  try simp only [Act.put, List.setIfInBounds_toArray, List.set_cons_zero, List.set_cons_succ]
                  refine wpG_takeB (i := 3) (oi := ⟨some 160, _, _, _, _, _⟩) (v := undef) rfl (by kernel_rfl) (by kernel_rfl) (by kernel_rfl) (by decide) (fun _ _ _ h => h) h01 rfl hHeld (Or.inr ⟨by rfl, rfl⟩) ?_
                  try simp only [Act.put, List.setIfInBounds_toArray, List.set_cons_zero, List.set_cons_succ]
                  refine wpG_takeB (i := 4) (oi := ⟨some 161, _, _, _, _, _⟩) (v := undef) rfl (by kernel_rfl) (by kernel_rfl) (by kernel_rfl) (by decide) (fun _ _ _ h => h) h01 rfl hHeld (Or.inr ⟨by rfl, rfl⟩) ?_
                  try simp only [Act.put, List.setIfInBounds_toArray, List.set_cons_zero, List.set_cons_succ]
                  refine wpG_takeB (i := 5) (oi := ⟨some 162, _, _, _, _, _⟩) (v := undef) rfl (by kernel_rfl) (by kernel_rfl) (by kernel_rfl) (by decide) (fun _ _ _ h => h) h01 rfl hHeld (Or.inr ⟨by rfl, rfl⟩) ?_
                  try simp only [Act.put, List.setIfInBounds_toArray, List.set_cons_zero, List.set_cons_succ]
                  refine wpG_takeB (i := 6) (oi := ⟨some 163, _, _, _, _, _⟩) (v := undef) rfl (by kernel_rfl) (by kernel_rfl) (by kernel_rfl) (by decide) (fun _ _ _ h => h) h01 rfl hHeld (Or.inr ⟨by rfl, rfl⟩) ?_
                  try simp only [Act.put, List.setIfInBounds_toArray, List.set_cons_zero, List.set_cons_succ]
                  refine wpG_takeB (i := 7) (oi := ⟨some 164, _, _, _, _, _⟩) (v := undef) rfl (by kernel_rfl) (by kernel_rfl) (by kernel_rfl) (by decide) (fun _ _ _ h => h) h01 rfl hHeld (Or.inr ⟨by rfl, rfl⟩) ?_
                  try simp only [Act.put, List.setIfInBounds_toArray, List.set_cons_zero, List.set_cons_succ]
                  refine wpG_takeB (i := 8) (oi := ⟨some 165, _, _, _, _, _⟩) (v := undef) rfl (by kernel_rfl) (by kernel_rfl) (by kernel_rfl) (by decide) (fun _ _ _ h => h) h01 rfl hHeld (Or.inr ⟨by rfl, rfl⟩) ?_
                  try simp only [Act.put, List.setIfInBounds_toArray, List.set_cons_zero, List.set_cons_succ]
                  refine wpG_takeB (i := 9) (oi := ⟨some 166, _, _, _, _, _⟩) (v := undef) rfl (by kernel_rfl) (by kernel_rfl) (by kernel_rfl) (by decide) (fun _ _ _ h => h) h01 rfl hHeld (Or.inr ⟨by rfl, rfl⟩) ?_
                  try simp only [Act.put, List.setIfInBounds_toArray, List.set_cons_zero, List.set_cons_succ]
                  refine wpG_takeB (i := 10) (oi := ⟨some 167, _, _, _, _, _⟩) (v := undef) rfl (by kernel_rfl) (by kernel_rfl) (by kernel_rfl) (by decide) (fun _ _ _ h => h) h01 rfl hHeld (Or.inr ⟨by rfl, rfl⟩) ?_
                  try simp only [Act.put, List.setIfInBounds_toArray, List.set_cons_zero, List.set_cons_succ]
                  refine wpG_takeB (i := 11) (oi := ⟨some 168, _, _, _, _, _⟩) (v := undef) rfl (by kernel_rfl) (by kernel_rfl) (by kernel_rfl) (by decide) (fun _ _ _ h => h) h01 rfl hHeld (Or.inr ⟨by rfl, rfl⟩) ?_
                  try simp only [Act.put, List.setIfInBounds_toArray, List.set_cons_zero, List.set_cons_succ]
                  refine wpG_takeB (i := 12) (oi := ⟨some 169, _, _, _, _, _⟩) (v := undef) rfl (by kernel_rfl) (by kernel_rfl) (by kernel_rfl) (by decide) (fun _ _ _ h => h) h01 rfl hHeld (Or.inr ⟨by rfl, rfl⟩) ?_
                  try simp only [Act.put, List.setIfInBounds_toArray, List.set_cons_zero, List.set_cons_succ]
                  refine wpG_takeB (i := 13) (oi := ⟨some 170, _, _, _, _, _⟩) (v := undef) rfl (by kernel_rfl) (by kernel_rfl) (by kernel_rfl) (by decide) (fun _ _ _ h => h) h01 rfl hHeld (Or.inr ⟨by rfl, rfl⟩) ?_
                  try simp only [Act.put, List.setIfInBounds_toArray, List.set_cons_zero, List.set_cons_succ]
                  refine wpG_takeB (i := 14) (oi := ⟨some 171, _, _, _, _, _⟩) (v := undef) rfl (by kernel_rfl) (by kernel_rfl) (by kernel_rfl) (by decide) (fun _ _ _ h => h) h01 rfl hHeld (Or.inr ⟨by rfl, rfl⟩) ?_
                  try simp only [Act.put, List.setIfInBounds_toArray, List.set_cons_zero, List.set_cons_succ]
                  refine wpG_takeB (i := 15) (oi := ⟨some 172, _, _, _, _, _⟩) (v := undef) rfl (by kernel_rfl) (by kernel_rfl) (by kernel_rfl) (by decide) (fun _ _ _ h => h) h01 rfl hHeld (Or.inr ⟨by rfl, rfl⟩) ?_
                  try simp only [Act.put, List.setIfInBounds_toArray, List.set_cons_zero, List.set_cons_succ]
                  refine wpG_takeB (i := 16) (oi := ⟨some 173, _, _, _, _, _⟩) (v := undef) rfl (by kernel_rfl) (by kernel_rfl) (by kernel_rfl) (by decide) (fun _ _ _ h => h) h01 rfl hHeld (Or.inr ⟨by rfl, rfl⟩) ?_
                  try simp only [Act.put, List.setIfInBounds_toArray, List.set_cons_zero, List.set_cons_succ]
                  refine wpG_takeB (i := 17) (oi := ⟨some 174, _, _, _, _, _⟩) (v := undef) rfl (by kernel_rfl) (by kernel_rfl) (by kernel_rfl) (by decide) (fun _ _ _ h => h) h01 rfl hHeld (Or.inr ⟨by rfl, rfl⟩) ?_
                  try simp only [Act.put, List.setIfInBounds_toArray, List.set_cons_zero, List.set_cons_succ]
                  refine wpG_takeB (i := 18) (oi := ⟨some 175, _, _, _, _, _⟩) (v := undef) rfl (by kernel_rfl) (by kernel_rfl) (by kernel_rfl) (by decide) (fun _ _ _ h => h) h01 rfl hHeld (Or.inr ⟨by rfl, rfl⟩) ?_
                  try simp only [Act.put, List.setIfInBounds_toArray, List.set_cons_zero, List.set_cons_succ]
                  refine wpG_takeB (i := 19) (oi := ⟨some 176, _, _, _, _, _⟩) (v := undef) rfl (by kernel_rfl) (by kernel_rfl) (by kernel_rfl) (by decide) (fun _ _ _ h => h) h01 rfl hHeld (Or.inr ⟨by rfl, rfl⟩) ?_
                  try simp only [Act.put, List.setIfInBounds_toArray, List.set_cons_zero, List.set_cons_succ]
                  refine wpG_takeB (i := 20) (oi := ⟨some 177, _, _, _, _, _⟩) (v := undef) rfl (by kernel_rfl) (by kernel_rfl) (by kernel_rfl) (by decide) (fun _ _ _ h => h) h01 rfl hHeld (Or.inr ⟨by rfl, rfl⟩) ?_
                  try simp only [Act.put, List.setIfInBounds_toArray, List.set_cons_zero, List.set_cons_succ]
                  refine wpG_takeB (i := 21) (oi := ⟨some 178, _, _, _, _, _⟩) (v := undef) rfl (by kernel_rfl) (by kernel_rfl) (by kernel_rfl) (by decide) (fun _ _ _ h => h) h01 rfl hHeld (Or.inr ⟨by rfl, rfl⟩) ?_
                  try simp only [Act.put, List.setIfInBounds_toArray, List.set_cons_zero, List.set_cons_succ]
                  refine wpG_takeB (i := 22) (oi := ⟨some 179, _, _, _, _, _⟩) (v := undef) rfl (by kernel_rfl) (by kernel_rfl) (by kernel_rfl) (by decide) (fun _ _ _ h => h) h01 rfl hHeld (Or.inr ⟨by rfl, rfl⟩) ?_
                  try simp only [Act.put, List.setIfInBounds_toArray, List.set_cons_zero, List.set_cons_succ]
                  refine wpG_takeB (i := 23) (oi := ⟨some 180, _, _, _, _, _⟩) (v := undef) rfl (by kernel_rfl) (by kernel_rfl) (by kernel_rfl) (by decide) (fun _ _ _ h => h) h01 rfl hHeld (Or.inr ⟨by rfl, rfl⟩) ?_
                  try simp only [Act.put, List.setIfInBounds_toArray, List.set_cons_zero, List.set_cons_succ]
                  refine wpG_takeB (i := 24) (oi := ⟨some 181, _, _, _, _, _⟩) (v := undef) rfl (by kernel_rfl) (by kernel_rfl) (by kernel_rfl) (by decide) (fun _ _ _ h => h) h01 rfl hHeld (Or.inr ⟨by rfl, rfl⟩) ?_
                  try simp only [Act.put, List.setIfInBounds_toArray, List.set_cons_zero, List.set_cons_succ]
                  refine wpG_takeB (i := 25) (oi := ⟨some 182, _, _, _, _, _⟩) (v := undef) rfl (by kernel_rfl) (by kernel_rfl) (by kernel_rfl) (by decide) (fun _ _ _ h => h) h01 rfl hHeld (Or.inr ⟨by rfl, rfl⟩) ?_
                  try simp only [Act.put, List.setIfInBounds_toArray, List.set_cons_zero, List.set_cons_succ]
                  refine wpG_takeB (i := 26) (oi := ⟨some 183, _, _, _, _, _⟩) (v := undef) rfl (by kernel_rfl) (by kernel_rfl) (by kernel_rfl) (by decide) (fun _ _ _ h => h) h01 rfl hHeld (Or.inr ⟨by rfl, rfl⟩) ?_
                  try simp only [Act.put, List.setIfInBounds_toArray, List.set_cons_zero, List.set_cons_succ]
                  refine wpG_takeB (i := 27) (oi := ⟨some 184, _, _, _, _, _⟩) (v := undef) rfl (by kernel_rfl) (by kernel_rfl) (by kernel_rfl) (by decide) (fun _ _ _ h => h) h01 rfl hHeld (Or.inr ⟨by rfl, rfl⟩) ?_
                  try simp only [Act.put, List.setIfInBounds_toArray, List.set_cons_zero, List.set_cons_succ]
                  refine wpG_takeB (i := 28) (oi := ⟨some 185, _, _, _, _, _⟩) (v := undef) rfl (by kernel_rfl) (by kernel_rfl) (by kernel_rfl) (by decide) (fun _ _ _ h => h) h01 rfl hHeld (Or.inr ⟨by rfl, rfl⟩) ?_
                  try simp only [Act.put, List.setIfInBounds_toArray, List.set_cons_zero, List.set_cons_succ]
                  refine wpG_takeB (i := 29) (oi := ⟨some 186, _, _, _, _, _⟩) (v := undef) rfl (by kernel_rfl) (by kernel_rfl) (by kernel_rfl) (by decide) (fun _ _ _ h => h) h01 rfl hHeld (Or.inr ⟨by rfl, rfl⟩) ?_
                  try simp only [Act.put, List.setIfInBounds_toArray, List.set_cons_zero, List.set_cons_succ]
                  refine wpG_takeB (i := 30) (oi := ⟨some 187, _, _, _, _, _⟩) (v := undef) rfl (by kernel_rfl) (by kernel_rfl) (by kernel_rfl) (by decide) (fun _ _ _ h => h) h01 rfl hHeld (Or.inr ⟨by rfl, rfl⟩) ?_
                  try simp only [Act.put, List.setIfInBounds_toArray, List.set_cons_zero, List.set_cons_succ]
                  refine wpG_takeB (i := 31) (oi := ⟨some 188, _, _, _, _, _⟩) (v := .bool false) rfl (by kernel_rfl) (by kernel_rfl) (by kernel_rfl) (by decide) (fun _ _ _ h => h) h01 rfl hHeld (Or.inl ⟨by rfl, ?_⟩) ?_
                  · (intro W9 hSw; go_simp; (try (first | with_reducible rfl | rfl | (rw [HWR.out]; done) | (rw [HWR2.out]; done) | (simp; done))))
                  try simp only [Act.put, List.setIfInBounds_toArray, List.set_cons_zero, List.set_cons_succ]
                  refine wpG_done (by kernel_rfl) ?_ _
                  go_wp2_with fail
                  go_meet
                  case rel => exact ⟨none, 0, 0, none, 0, 0, 5, d, v1, v2, _, rfl, rfl, rfl, rfl, HR.out.1, RB.nil _, RB.nil _, T5.out.over (below_drew (Below.refl _ _))⟩
                · go_wp2_with (first
                    | (go_at_call 12; (with_reducible refine C1.out.mono ?_); rintro e w4 ⟨rfl, hb⟩; have T4 := Lib.hid (HR.out.2.over hb); clear hb ky; have ky := HKY.out w4 T4.out.a.below)
                    | (go_at_call 12; (with_reducible refine (C2.out _ T4.out).mono ?_); rintro e wq ⟨rfl, hb⟩; have T5 := Lib.hid (T4.out.over hb); clear hb))
                  clear he ky
                  refine wp_region_G (S0 := (fun _ => True)) (S1 := (fun _ => True)) (c := 99) (by kernel_rfl) ?_
                  have hHeld := trivial
                  have h01 := (fun (W : World) (h : (fun _ => True) W) => h)
                  refine wpG_takeB (i := 0) (oi := ⟨some 157, _, _, _, _, _⟩) (v := .int .i64 4) rfl (by kernel_rfl) (by kernel_rfl) (by kernel_rfl) (by decide) (fun _ _ _ h => h) h01 rfl hHeld (Or.inl ⟨by rfl, ?_⟩) ?_
                  · (intro W9 hSw; go_simp; (try (first | with_reducible rfl | rfl | (rw [HWR.out]; done) | (rw [HWR2.out]; done) | (simp; done))))
                  try simp only [Act.put, List.setIfInBounds_toArray, List.set_cons_zero, List.set_cons_succ]
                  refine wpG_takeB (i := 1) (oi := ⟨some 158, _, _, _, _, _⟩) (v := .bool false) rfl (by kernel_rfl) (by kernel_rfl) (by kernel_rfl) (by decide) (fun _ _ _ h => h) h01 rfl hHeld (Or.inl ⟨by rfl, ?_⟩) ?_
                  · (intro W9 hSw; go_simp; (try (first | with_reducible rfl | rfl | (rw [HWR.out]; done) | (rw [HWR2.out]; done) | (simp; done))))
                  try simp only [Act.put, List.setIfInBounds_toArray, List.set_cons_zero, List.set_cons_succ]
                  refine wpG_takeB (i := 2) (oi := ⟨some 159, _, _, _, _, _⟩) (v := .bool false) rfl (by kernel_rfl) (by kernel_rfl) (by kernel_rfl) (by decide) (fun _ _ _ h => h) h01 rfl hHeld (Or.inl ⟨by rfl, ?_⟩) ?_
                  · (intro W9 hSw; go_simp; (try (first | with_reducible rfl | rfl | (rw [HWR.out]; done) | (rw [HWR2.out]; done) | (simp; done))))
                  try simp only [Act.put, List.setIfInBounds_toArray, List.set_cons_zero, List.set_cons_succ]
                  refine wpG_takeB (i := 3) (oi := ⟨some 160, _, _, _, _, _⟩) (v := undef) rfl (by kernel_rfl) (by kernel_rfl) (by kernel_rfl) (by decide) (fun _ _ _ h => h) h01 rfl hHeld (Or.inr ⟨by rfl, rfl⟩) ?_
                  try simp only [Act.put, List.setIfInBounds_toArray, List.set_cons_zero, List.set_cons_succ]
                  refine wpG_takeB (i := 4) (oi := ⟨some 161, _, _, _, _, _⟩) (v := undef) rfl (by kernel_rfl) (by kernel_rfl) (by kernel_rfl) (by decide) (fun _ _ _ h => h) h01 rfl hHeld (Or.inr ⟨by rfl, rfl⟩) ?_
                  try simp only [Act.put, List.setIfInBounds_toArray, List.set_cons_zero, List.set_cons_succ]
                  refine wpG_takeB (i := 5) (oi := ⟨some 162, _, _, _, _, _⟩) (v := undef) rfl (by kernel_rfl) (by kernel_rfl) (by kernel_rfl) (by decide) (fun _ _ _ h => h) h01 rfl hHeld (Or.inr ⟨by rfl, rfl⟩) ?_
                  try simp only [Act.put, List.setIfInBounds_toArray, List.set_cons_zero, List.set_cons_succ]
                  refine wpG_takeB (i := 6) (oi := ⟨some 163, _, _, _, _, _⟩) (v := undef) rfl (by kernel_rfl) (by kernel_rfl) (by kernel_rfl) (by decide) (fun _ _ _ h => h) h01 rfl hHeld (Or.inr ⟨by rfl, rfl⟩) ?_
                  try simp only [Act.put, List.setIfInBounds_toArray, List.set_cons_zero, List.set_cons_succ]
                  refine wpG_takeB (i := 7) (oi := ⟨some 164, _, _, _, _, _⟩) (v := undef) rfl (by kernel_rfl) (by kernel_rfl) (by kernel_rfl) (by decide) (fun _ _ _ h => h) h01 rfl hHeld (Or.inr ⟨by rfl, rfl⟩) ?_
                  try simp only [Act.put, List.setIfInBounds_toArray, List.set_cons_zero, List.set_cons_succ]
                  refine wpG_takeB (i := 8) (oi := ⟨some 165, _, _, _, _, _⟩) (v := undef) rfl (by kernel_rfl) (by kernel_rfl) (by kernel_rfl) (by decide) (fun _ _ _ h => h) h01 rfl hHeld (Or.inr ⟨by rfl, rfl⟩) ?_
                  try simp only [Act.put, List.setIfInBounds_toArray, List.set_cons_zero, List.set_cons_succ]
                  refine wpG_takeB (i := 9) (oi := ⟨some 166, _, _, _, _, _⟩) (v := undef) rfl (by kernel_rfl) (by kernel_rfl) (by kernel_rfl) (by decide) (fun _ _ _ h => h) h01 rfl hHeld (Or.inr ⟨by rfl, rfl⟩) ?_
                  try simp only [Act.put, List.setIfInBounds_toArray, List.set_cons_zero, List.set_cons_succ]
                  refine wpG_takeB (i := 10) (oi := ⟨some 167, _, _, _, _, _⟩) (v := undef) rfl (by kernel_rfl) (by kernel_rfl) (by kernel_rfl) (by decide) (fun _ _ _ h => h) h01 rfl hHeld (Or.inr ⟨by rfl, rfl⟩) ?_
                  try simp only [Act.put, List.setIfInBounds_toArray, List.set_cons_zero, List.set_cons_succ]
                  refine wpG_takeB (i := 11) (oi := ⟨some 168, _, _, _, _, _⟩) (v := undef) rfl (by kernel_rfl) (by kernel_rfl) (by kernel_rfl) (by decide) (fun _ _ _ h => h) h01 rfl hHeld (Or.inr ⟨by rfl, rfl⟩) ?_
                  try simp only [Act.put, List.setIfInBounds_toArray, List.set_cons_zero, List.set_cons_succ]
                  refine wpG_takeB (i := 12) (oi := ⟨some 169, _, _, _, _, _⟩) (v := undef) rfl (by kernel_rfl) (by kernel_rfl) (by kernel_rfl) (by decide) (fun _ _ _ h => h) h01 rfl hHeld (Or.inr ⟨by rfl, rfl⟩) ?_
                  try simp only [Act.put, List.setIfInBounds_toArray, List.set_cons_zero, List.set_cons_succ]
                  refine wpG_takeB (i := 13) (oi := ⟨some 170, _, _, _, _, _⟩) (v := undef) rfl (by kernel_rfl) (by kernel_rfl) (by kernel_rfl) (by decide) (fun _ _ _ h => h) h01 rfl hHeld (Or.inr ⟨by rfl, rfl⟩) ?_
                  try simp only [Act.put, List.setIfInBounds_toArray, List.set_cons_zero, List.set_cons_succ]
                  refine wpG_takeB (i := 14) (oi := ⟨some 171, _, _, _, _, _⟩) (v := undef) rfl (by kernel_rfl) (by kernel_rfl) (by kernel_rfl) (by decide) (fun _ _ _ h => h) h01 rfl hHeld (Or.inr ⟨by rfl, rfl⟩) ?_
                  try simp only [Act.put, List.setIfInBounds_toArray, List.set_cons_zero, List.set_cons_succ]
                  refine wpG_takeB (i := 15) (oi := ⟨some 172, _, _, _, _, _⟩) (v := undef) rfl (by kernel_rfl) (by kernel_rfl) (by kernel_rfl) (by decide) (fun _ _ _ h => h) h01 rfl hHeld (Or.inr ⟨by rfl, rfl⟩) ?_
                  try simp only [Act.put, List.setIfInBounds_toArray, List.set_cons_zero, List.set_cons_succ]
                  refine wpG_takeB (i := 16) (oi := ⟨some 173, _, _, _, _, _⟩) (v := undef) rfl (by kernel_rfl) (by kernel_rfl) (by kernel_rfl) (by decide) (fun _ _ _ h => h) h01 rfl hHeld (Or.inr ⟨by rfl, rfl⟩) ?_
                  try simp only [Act.put, List.setIfInBounds_toArray, List.set_cons_zero, List.set_cons_succ]
                  refine wpG_takeB (i := 17) (oi := ⟨some 174, _, _, _, _, _⟩) (v := undef) rfl (by kernel_rfl) (by kernel_rfl) (by kernel_rfl) (by decide) (fun _ _ _ h => h) h01 rfl hHeld (Or.inr ⟨by rfl, rfl⟩) ?_
                  try simp only [Act.put, List.setIfInBounds_toArray, List.set_cons_zero, List.set_cons_succ]
                  refine wpG_takeB (i := 18) (oi := ⟨some 175, _, _, _, _, _⟩) (v := undef) rfl (by kernel_rfl) (by kernel_rfl) (by kernel_rfl) (by decide) (fun _ _ _ h => h) h01 rfl hHeld (Or.inr ⟨by rfl, rfl⟩) ?_
                  try simp only [Act.put, List.setIfInBounds_toArray, List.set_cons_zero, List.set_cons_succ]
                  refine wpG_takeB (i := 19) (oi := ⟨some 176, _, _, _, _, _⟩) (v := undef) rfl (by kernel_rfl) (by kernel_rfl) (by kernel_rfl) (by decide) (fun _ _ _ h => h) h01 rfl hHeld (Or.inr ⟨by rfl, rfl⟩) ?_
                  try simp only [Act.put, List.setIfInBounds_toArray, List.set_cons_zero, List.set_cons_succ]
                  refine wpG_takeB (i := 20) (oi := ⟨some 177, _, _, _, _, _⟩) (v := undef) rfl (by kernel_rfl) (by kernel_rfl) (by kernel_rfl) (by decide) (fun _ _ _ h => h) h01 rfl hHeld (Or.inr ⟨by rfl, rfl⟩) ?_
                  try simp only [Act.put, List.setIfInBounds_toArray, List.set_cons_zero, List.set_cons_succ]
                  refine wpG_takeB (i := 21) (oi := ⟨some 178, _, _, _, _, _⟩) (v := undef) rfl (by kernel_rfl) (by kernel_rfl) (by kernel_rfl) (by decide) (fun _ _ _ h => h) h01 rfl hHeld (Or.inr ⟨by rfl, rfl⟩) ?_
                  try simp only [Act.put, List.setIfInBounds_toArray, List.set_cons_zero, List.set_cons_succ]
                  refine wpG_takeB (i := 22) (oi := ⟨some 179, _, _, _, _, _⟩) (v := undef) rfl (by kernel_rfl) (by kernel_rfl) (by kernel_rfl) (by decide) (fun _ _ _ h => h) h01 rfl hHeld (Or.inr ⟨by rfl, rfl⟩) ?_
                  try simp only [Act.put, List.setIfInBounds_toArray, List.set_cons_zero, List.set_cons_succ]
                  refine wpG_takeB (i := 23) (oi := ⟨some 180, _, _, _, _, _⟩) (v := undef) rfl (by kernel_rfl) (by kernel_rfl) (by kernel_rfl) (by decide) (fun _ _ _ h => h) h01 rfl hHeld (Or.inr ⟨by rfl, rfl⟩) ?_
                  try simp only [Act.put, List.setIfInBounds_toArray, List.set_cons_zero, List.set_cons_succ]
                  refine wpG_takeB (i := 24) (oi := ⟨some 181, _, _, _, _, _⟩) (v := undef) rfl (by kernel_rfl) (by kernel_rfl) (by kernel_rfl) (by decide) (fun _ _ _ h => h) h01 rfl hHeld (Or.inr ⟨by rfl, rfl⟩) ?_
                  try simp only [Act.put, List.setIfInBounds_toArray, List.set_cons_zero, List.set_cons_succ]
                  refine wpG_takeB (i := 25) (oi := ⟨some 182, _, _, _, _, _⟩) (v := undef) rfl (by kernel_rfl) (by kernel_rfl) (by kernel_rfl) (by decide) (fun _ _ _ h => h) h01 rfl hHeld (Or.inr ⟨by rfl, rfl⟩) ?_
                  try simp only [Act.put, List.setIfInBounds_toArray, List.set_cons_zero, List.set_cons_succ]
                  refine wpG_takeB (i := 26) (oi := ⟨some 183, _, _, _, _, _⟩) (v := undef) rfl (by kernel_rfl) (by kernel_rfl) (by kernel_rfl) (by decide) (fun _ _ _ h => h) h01 rfl hHeld (Or.inr ⟨by rfl, rfl⟩) ?_
                  try simp only [Act.put, List.setIfInBounds_toArray, List.set_cons_zero, List.set_cons_succ]
                  refine wpG_takeB (i := 27) (oi := ⟨some 184, _, _, _, _, _⟩) (v := undef) rfl (by kernel_rfl) (by kernel_rfl) (by kernel_rfl) (by decide) (fun _ _ _ h => h) h01 rfl hHeld (Or.inr ⟨by rfl, rfl⟩) ?_
                  try simp only [Act.put, List.setIfInBounds_toArray, List.set_cons_zero, List.set_cons_succ]
                  refine wpG_takeB (i := 28) (oi := ⟨some 185, _, _, _, _, _⟩) (v := undef) rfl (by kernel_rfl) (by kernel_rfl) (by kernel_rfl) (by decide) (fun _ _ _ h => h) h01 rfl hHeld (Or.inr ⟨by rfl, rfl⟩) ?_
                  try simp only [Act.put, List.setIfInBounds_toArray, List.set_cons_zero, List.set_cons_succ]
                  refine wpG_takeB (i := 29) (oi := ⟨some 186, _, _, _, _, _⟩) (v := undef) rfl (by kernel_rfl) (by kernel_rfl) (by kernel_rfl) (by decide) (fun _ _ _ h => h) h01 rfl hHeld (Or.inr ⟨by rfl, rfl⟩) ?_
                  try simp only [Act.put, List.setIfInBounds_toArray, List.set_cons_zero, List.set_cons_succ]
                  refine wpG_takeB (i := 30) (oi := ⟨some 187, _, _, _, _, _⟩) (v := undef) rfl (by kernel_rfl) (by kernel_rfl) (by kernel_rfl) (by decide) (fun _ _ _ h => h) h01 rfl hHeld (Or.inr ⟨by rfl, rfl⟩) ?_
                  try simp only [Act.put, List.setIfInBounds_toArray, List.set_cons_zero, List.set_cons_succ]
                  refine wpG_takeB (i := 31) (oi := ⟨some 188, _, _, _, _, _⟩) (v := .bool false) rfl (by kernel_rfl) (by kernel_rfl) (by kernel_rfl) (by decide) (fun _ _ _ h => h) h01 rfl hHeld (Or.inl ⟨by rfl, ?_⟩) ?_
                  · (intro W9 hSw; go_simp; (try (first | with_reducible rfl | rfl | (rw [HWR.out]; done) | (rw [HWR2.out]; done) | (simp; done))))
                  try simp only [Act.put, List.setIfInBounds_toArray, List.set_cons_zero, List.set_cons_succ]
                  refine wpG_done (by kernel_rfl) ?_ _
                  go_wp2_with fail
                  go_meet
                  case rel => exact ⟨none, 0, 0, none, 0, 0, 4, d, v1, v2, _, rfl, rfl, rfl, rfl, HR.out.1, RB.nil _, RB.nil _, T5.out.over (below_drew (Below.refl _ _))⟩
              · obtain ⟨k, hk⟩ : ∃ k : Nat, atB (all.drop d) y 30 = (k : Int) := ⟨(atB (all.drop d) y 30).toNat, by omega⟩
                have HKL := Lib.hid (atB_at hk)
                have HK := Lib.hid hk
                have C1 := Lib.hid (show Calls Try.prog 12 #[.pointer (some ⟨bs, 0, none⟩), .int .u8 x, .int .i64 30] wo (fun e w' => ∃ A c v', e = .returned (.tuple #[.slice A k c, .int .i64 0]) ∧ Tk2 w wo w' 1000 ⟨bs, bt, bb, v1, all.drop d, d⟩ ⟨ct, dt, db, v2, all.drop d, d⟩ A c k (k + 1) v') from HXY.out ▸ HR.out.2.until_ok HDN.out y 30 k (by omega) hk HKL.out.1)
                clear hk hat
                go_wp2_with (first
                  | (go_at_call 12; (with_reducible refine C1.out.mono ?_); rintro e w4 ⟨A1, c1, v3', rfl, ht⟩; have TK := Lib.hid ht; clear ht ky; have ky := HKY.out w4 TK.out.two.a.below; have C2 := Lib.hid (show Calls Try.prog 12 #[.pointer (some ⟨ct, 0, none⟩), .int .u8 x, .int .i64 30] w4 (fun e w' => ∃ A c v', e = .returned (.tuple #[.slice A k c, .int .i64 0]) ∧ Tk2 w w4 w' 1000 ⟨ct, dt, db, v2, all.drop d, d⟩ ⟨bs, bt, bb, v3', (all.drop d).drop (k + 1), d + (k + 1)⟩ A c k (k + 1) v') from HXY.out ▸ TK.out.two.swap.until_ok HDN.out y 30 k (by omega) HK.out HKL.out.1))
                  | (go_at_call 12; (with_reducible refine C2.out.mono ?_); rintro e wq ⟨A2, c2, v4', rfl, ht⟩; have TL := Lib.hid ht; clear ht))
                obtain ⟨A', c', hsl, hrb, -⟩ := slice_in wq A n cA d (d + (k + 1)) all (HA.out.below (TL.out.two.a.below.mono (Nat.le_refl _))) (by omega) (by have := HKL.out.1; have := HLD.out; have := HR.out.1; omega)
                rw [show d + (k + 1) - d = k + 1 by omega, List.drop_take, show d + (k + 1) - d = k + 1 by omega] at hrb
                rw [show d + (k + 1) - d = k + 1 by omega] at hsl
                have HSL := Lib.hid (show ∀ W' : World, (Instr.slice 22 (.slice A n cA) (some (.int .i64 (d : Int))) (some (.int .i64 ((d : Int) + k + 1))) none).run Try.prog W' = .ok (.slice A' (k + 1) c') W' from fun W' => by have := hsl W'; rw [show ((d + (k + 1) : Nat) : Int) = (d : Int) + k + 1 by omega] at this; exact this)
                have RB1 := Lib.hid (TK.out.over TL.out.only)
                have HBW := Lib.hid (TL.out.two.a.below)
                have HRB' := Lib.hid hrb
                have HSA := Lib.hid (show ∀ W, Below wq.heap.size wq W → TwoC A1 k c1 A' (k + 1) c' (takes_ d k all) (takes_ d (k + 1) all) b (o + i) x W from fun W hb => ⟨RB1.out.below hb, HRB'.out.below hb, HKY.out W (HBW.out.trans (hb.mono HBW.out.size))⟩)
                have HS8 := Lib.hid (HSA.out wq.drew (below_drew (Below.refl _ _)))
                obtain ⟨Sx, hSx⟩ : ∃ Sx : ByteArray, ⟨(takes_ d k all).toArray⟩ = Sx := ⟨_, rfl⟩
                obtain ⟨Sy, hSy⟩ : ∃ Sy : ByteArray, ⟨(takes_ d (k + 1) all).toArray⟩ = Sy := ⟨_, rfl⟩
                have HSX := Lib.hid hSx
                have HSY := Lib.hid hSy
                have HCW := Lib.hid (show Sx ++ ({ data := #[y] } : ByteArray) = Sy from by
                  rw [← hSx, ← hSy]
                  have h9 := take_row HKL.out.1
                  rw [HKL.out.2] at h9
                  unfold takes_
                  rw [← h9]
                  apply ByteArray.ext
                  simp [ByteArray.data_append])
                have HCZ := Lib.hid (show (convert 22 9 (.slice (some ⟨wq.heap.size, 0, none⟩) 1 1)).run Try.prog (wq.alloc (.cells #[.int .u8 x] 5)).drew = .ok (.string { data := #[y] }) (wq.alloc (.cells #[.int .u8 x] 5)).drew from conv_RB (l := [y]) (RB.lit wq.drew [y] 1 #[.int .u8 x] (by rw [← HXY.out]; rfl) rfl (by omega)))
                have HLE := Lib.hid (show d + k < n by have := HKL.out.1; have := HLD.out; have := HR.out.1; omega)
                have HCL := Lib.hid (show Sx.size = k from by rw [← hSx]; show (takes_ d k all).toArray.size = k; unfold takes_; have := HKL.out.1; simp at this ⊢; omega)
                have hle : (d : Int) + k < n := by have := HLE.out; omega
                have HWR := Lib.hid (show IntKind.i64.wrap ((d : Int) + k) = (d : Int) + k from by have := HLE.out; have := HL.out; rw [IntKind.wrap_i64]; omega)
                have HWR2 := Lib.hid (show IntKind.i64.wrap ((d : Int) + k + 1) = (d : Int) + k + 1 from by have := HLE.out; have := HL.out; rw [IntKind.wrap_i64]; omega)
                have hk0 : (0 : Int) ≤ k := by omega
                have hdk : (d : Int) + k + 1 ≤ 500 := by have := HLE.out; have := HL.out; omega
                clear hsl hrb hSx hSy he ky
                refine wp_region_G (S0 := (TwoC A1 k c1 A' (k + 1) c' (takes_ d k all) (takes_ d (k + 1) all) b (o + i) x)) (S1 := (TwoC A1 k c1 A' (k + 1) c' (takes_ d k all) (takes_ d (k + 1) all) b (o + i) x)) (c := 99) (by kernel_rfl) ?_
                have hHeld := HS8.out
                have h01 := (fun (W : World) (h : (TwoC A1 k c1 A' (k + 1) c' (takes_ d k all) (takes_ d (k + 1) all) b (o + i) x) W) => h)
                refine wpG_takeB (i := 0) (oi := ⟨some 157, _, _, _, _, _⟩) (v := .int .i64 0) rfl (by kernel_rfl) (by kernel_rfl) (by kernel_rfl) (by decide) (fun _ _ _ h => h) h01 rfl hHeld (Or.inl ⟨by rfl, ?_⟩) ?_
                · (intro W9 hSw; obtain ⟨v1, v2, v3⟩ := hSw; have hca := conv_RB v1; rw [HSX.out] at hca; have hcb := conv_RB v2; rw [HSY.out] at hcb; have hsl := HSL.out; clear v1 v2; go_simp; (try (first | with_reducible rfl | rfl | (rw [HWR.out]; done) | (rw [HWR2.out]; done) | (simp; done))))
                try simp only [Act.put, List.setIfInBounds_toArray, List.set_cons_zero, List.set_cons_succ]
                refine wpG_takeB (i := 1) (oi := ⟨some 158, _, _, _, _, _⟩) (v := .bool true) rfl (by kernel_rfl) (by kernel_rfl) (by kernel_rfl) (by decide) (fun _ _ _ h => h) h01 rfl hHeld (Or.inl ⟨by rfl, ?_⟩) ?_
                · (intro W9 hSw; obtain ⟨v1, v2, v3⟩ := hSw; have hca := conv_RB v1; rw [HSX.out] at hca; have hcb := conv_RB v2; rw [HSY.out] at hcb; have hsl := HSL.out; clear v1 v2; go_simp; (try (first | with_reducible rfl | rfl | (rw [HWR.out]; done) | (rw [HWR2.out]; done) | (simp; done))))
                try simp only [Act.put, List.setIfInBounds_toArray, List.set_cons_zero, List.set_cons_succ]
                refine wpG_takeB (i := 2) (oi := ⟨some 159, _, _, _, _, _⟩) (v := .bool true) rfl (by kernel_rfl) (by kernel_rfl) (by kernel_rfl) (by decide) (fun _ _ _ h => h) h01 rfl hHeld (Or.inl ⟨by rfl, ?_⟩) ?_
                · (intro W9 hSw; obtain ⟨v1, v2, v3⟩ := hSw; have hca := conv_RB v1; rw [HSX.out] at hca; have hcb := conv_RB v2; rw [HSY.out] at hcb; have hsl := HSL.out; clear v1 v2; go_simp; (try (first | with_reducible rfl | rfl | (rw [HWR.out]; done) | (rw [HWR2.out]; done) | (simp; done))))
                try simp only [Act.put, List.setIfInBounds_toArray, List.set_cons_zero, List.set_cons_succ]
                refine wpG_takeB (i := 3) (oi := ⟨some 160, _, _, _, _, _⟩) (v := .int .i64 (d : Int)) rfl (by kernel_rfl) (by kernel_rfl) (by kernel_rfl) (by decide) (fun _ _ _ h => h) h01 rfl hHeld (Or.inl ⟨by rfl, ?_⟩) ?_
                · (intro W9 hSw; obtain ⟨v1, v2, v3⟩ := hSw; have hca := conv_RB v1; rw [HSX.out] at hca; have hcb := conv_RB v2; rw [HSY.out] at hcb; have hsl := HSL.out; clear v1 v2; go_simp; (try (first | with_reducible rfl | rfl | (rw [HWR.out]; done) | (rw [HWR2.out]; done) | (simp; done))))
                try simp only [Act.put, List.setIfInBounds_toArray, List.set_cons_zero, List.set_cons_succ]
                refine wpG_takeB (i := 4) (oi := ⟨some 161, _, _, _, _, _⟩) (v := .slice A1 k c1) rfl (by kernel_rfl) (by kernel_rfl) (by kernel_rfl) (by decide) (fun _ _ _ h => h) h01 rfl hHeld (Or.inl ⟨by rfl, ?_⟩) ?_
                · (intro W9 hSw; obtain ⟨v1, v2, v3⟩ := hSw; have hca := conv_RB v1; rw [HSX.out] at hca; have hcb := conv_RB v2; rw [HSY.out] at hcb; have hsl := HSL.out; clear v1 v2; go_simp; (try (first | with_reducible rfl | rfl | (rw [HWR.out]; done) | (rw [HWR2.out]; done) | (simp; done))))
                try simp only [Act.put, List.setIfInBounds_toArray, List.set_cons_zero, List.set_cons_succ]
                refine wpG_takeB (i := 5) (oi := ⟨some 162, _, _, _, _, _⟩) (v := .int .i64 (k : Int)) rfl (by kernel_rfl) (by kernel_rfl) (by kernel_rfl) (by decide) (fun _ _ _ h => h) h01 rfl hHeld (Or.inl ⟨by rfl, ?_⟩) ?_
                · (intro W9 hSw; obtain ⟨v1, v2, v3⟩ := hSw; have hca := conv_RB v1; rw [HSX.out] at hca; have hcb := conv_RB v2; rw [HSY.out] at hcb; have hsl := HSL.out; clear v1 v2; go_simp; (try (first | with_reducible rfl | rfl | (rw [HWR.out]; done) | (rw [HWR2.out]; done) | (simp; done))))
                try simp only [Act.put, List.setIfInBounds_toArray, List.set_cons_zero, List.set_cons_succ]
                refine wpG_takeB (i := 6) (oi := ⟨some 163, _, _, _, _, _⟩) (v := .int .i64 ((d : Int) + k)) rfl (by kernel_rfl) (by kernel_rfl) (by kernel_rfl) (by decide) (fun _ _ _ h => h) h01 rfl hHeld (Or.inl ⟨by rfl, ?_⟩) ?_
                · (intro W9 hSw; obtain ⟨v1, v2, v3⟩ := hSw; have hca := conv_RB v1; rw [HSX.out] at hca; have hcb := conv_RB v2; rw [HSY.out] at hcb; have hsl := HSL.out; clear v1 v2; go_simp; (try (first | with_reducible rfl | rfl | (rw [HWR.out]; done) | (rw [HWR2.out]; done) | (simp; done))))
                try simp only [Act.put, List.setIfInBounds_toArray, List.set_cons_zero, List.set_cons_succ]
                refine wpG_takeB (i := 7) (oi := ⟨some 164, _, _, _, _, _⟩) (v := .slice A n cA) rfl (by kernel_rfl) (by kernel_rfl) (by kernel_rfl) (by decide) (fun _ _ _ h => h) h01 rfl hHeld (Or.inl ⟨by rfl, ?_⟩) ?_
                · (intro W9 hSw; obtain ⟨v1, v2, v3⟩ := hSw; have hca := conv_RB v1; rw [HSX.out] at hca; have hcb := conv_RB v2; rw [HSY.out] at hcb; have hsl := HSL.out; clear v1 v2; go_simp; (try (first | with_reducible rfl | rfl | (rw [HWR.out]; done) | (rw [HWR2.out]; done) | (simp; done))))
                try simp only [Act.put, List.setIfInBounds_toArray, List.set_cons_zero, List.set_cons_succ]
                refine wpG_takeB (i := 8) (oi := ⟨some 165, _, _, _, _, _⟩) (v := .int .i64 (n : Int)) rfl (by kernel_rfl) (by kernel_rfl) (by kernel_rfl) (by decide) (fun _ _ _ h => h) h01 rfl hHeld (Or.inl ⟨by rfl, ?_⟩) ?_
                · (intro W9 hSw; obtain ⟨v1, v2, v3⟩ := hSw; have hca := conv_RB v1; rw [HSX.out] at hca; have hcb := conv_RB v2; rw [HSY.out] at hcb; have hsl := HSL.out; clear v1 v2; go_simp; (try (first | with_reducible rfl | rfl | (rw [HWR.out]; done) | (rw [HWR2.out]; done) | (simp; done))))
                try simp only [Act.put, List.setIfInBounds_toArray, List.set_cons_zero, List.set_cons_succ]
                refine wpG_takeB (i := 9) (oi := ⟨some 166, _, _, _, _, _⟩) (v := .bool false) rfl (by kernel_rfl) (by kernel_rfl) (by kernel_rfl) (by decide) (fun _ _ _ h => h) h01 rfl hHeld (Or.inl ⟨by rfl, ?_⟩) ?_
                · (intro W9 hSw; obtain ⟨v1, v2, v3⟩ := hSw; have hca := conv_RB v1; rw [HSX.out] at hca; have hcb := conv_RB v2; rw [HSY.out] at hcb; have hsl := HSL.out; clear v1 v2; go_simp; (try (first | with_reducible rfl | rfl | (rw [HWR.out]; done) | (rw [HWR2.out]; done) | (simp; done))))
                try simp only [Act.put, List.setIfInBounds_toArray, List.set_cons_zero, List.set_cons_succ]
                refine wpG_takeB (i := 10) (oi := ⟨some 167, _, _, _, _, _⟩) (v := .bool false) rfl (by kernel_rfl) (by kernel_rfl) (by kernel_rfl) (by decide) (fun _ _ _ h => h) h01 rfl hHeld (Or.inl ⟨by rfl, ?_⟩) ?_
                · (intro W9 hSw; obtain ⟨v1, v2, v3⟩ := hSw; have hca := conv_RB v1; rw [HSX.out] at hca; have hcb := conv_RB v2; rw [HSY.out] at hcb; have hsl := HSL.out; clear v1 v2; go_simp; (try (first | with_reducible rfl | rfl | (rw [HWR.out]; done) | (rw [HWR2.out]; done) | (simp; done))))
                try simp only [Act.put, List.setIfInBounds_toArray, List.set_cons_zero, List.set_cons_succ]
                refine wpG_takeB (i := 11) (oi := ⟨some 168, _, _, _, _, _⟩) (v := .slice A1 k c1) rfl (by kernel_rfl) (by kernel_rfl) (by kernel_rfl) (by decide) (fun _ _ _ h => h) h01 rfl hHeld (Or.inl ⟨by rfl, ?_⟩) ?_
                · (intro W9 hSw; obtain ⟨v1, v2, v3⟩ := hSw; have hca := conv_RB v1; rw [HSX.out] at hca; have hcb := conv_RB v2; rw [HSY.out] at hcb; have hsl := HSL.out; clear v1 v2; go_simp; (try (first | with_reducible rfl | rfl | (rw [HWR.out]; done) | (rw [HWR2.out]; done) | (simp; done))))
                try simp only [Act.put, List.setIfInBounds_toArray, List.set_cons_zero, List.set_cons_succ]
                refine wpG_takeB (i := 12) (oi := ⟨some 169, _, _, _, _, _⟩) (v := .string Sx) rfl (by kernel_rfl) (by kernel_rfl) (by kernel_rfl) (by decide) (fun _ _ _ h => h) h01 rfl hHeld (Or.inl ⟨by rfl, ?_⟩) ?_
                · (intro W9 hSw; obtain ⟨v1, v2, v3⟩ := hSw; have hca := conv_RB v1; rw [HSX.out] at hca; have hcb := conv_RB v2; rw [HSY.out] at hcb; have hsl := HSL.out; clear v1 v2; go_simp; (try (first | with_reducible rfl | rfl | (rw [HWR.out]; done) | (rw [HWR2.out]; done) | (simp; done))))
                try simp only [Act.put, List.setIfInBounds_toArray, List.set_cons_zero, List.set_cons_succ]
                refine wpG_takeB (i := 13) (oi := ⟨some 170, _, _, _, _, _⟩) (v := .slice (some ⟨b, o, none⟩) p cY) rfl (by kernel_rfl) (by kernel_rfl) (by kernel_rfl) (by decide) (fun _ _ _ h => h) h01 rfl hHeld (Or.inl ⟨by rfl, ?_⟩) ?_
                · (intro W9 hSw; obtain ⟨v1, v2, v3⟩ := hSw; have hca := conv_RB v1; rw [HSX.out] at hca; have hcb := conv_RB v2; rw [HSY.out] at hcb; have hsl := HSL.out; clear v1 v2; go_simp; (try (first | with_reducible rfl | rfl | (rw [HWR.out]; done) | (rw [HWR2.out]; done) | (simp; done))))
                try simp only [Act.put, List.setIfInBounds_toArray, List.set_cons_zero, List.set_cons_succ]
                refine wpG_takeB (i := 14) (oi := ⟨some 171, _, _, _, _, _⟩) (v := .int .i64 (i : Int)) rfl (by kernel_rfl) (by kernel_rfl) (by kernel_rfl) (by decide) (fun _ _ _ h => h) h01 rfl hHeld (Or.inl ⟨by rfl, ?_⟩) ?_
                · (intro W9 hSw; obtain ⟨v1, v2, v3⟩ := hSw; have hca := conv_RB v1; rw [HSX.out] at hca; have hcb := conv_RB v2; rw [HSY.out] at hcb; have hsl := HSL.out; clear v1 v2; go_simp; (try (first | with_reducible rfl | rfl | (rw [HWR.out]; done) | (rw [HWR2.out]; done) | (simp; done))))
                try simp only [Act.put, List.setIfInBounds_toArray, List.set_cons_zero, List.set_cons_succ]
                refine wpG_takeB (i := 15) (oi := ⟨some 172, _, _, _, _, _⟩) (v := .pointer (some ⟨b, o + i, none⟩)) rfl (by kernel_rfl) (by kernel_rfl) (by kernel_rfl) (by decide) (fun _ _ _ h => h) h01 rfl hHeld (Or.inl ⟨by rfl, ?_⟩) ?_
                · (intro W9 hSw; obtain ⟨v1, v2, v3⟩ := hSw; have hca := conv_RB v1; rw [HSX.out] at hca; have hcb := conv_RB v2; rw [HSY.out] at hcb; have hsl := HSL.out; clear v1 v2; go_simp; (try (first | with_reducible rfl | rfl | (rw [HWR.out]; done) | (rw [HWR2.out]; done) | (simp; done))))
                try simp only [Act.put, List.setIfInBounds_toArray, List.set_cons_zero, List.set_cons_succ]
                refine wpG_takeB (i := 16) (oi := ⟨some 173, _, _, _, _, _⟩) (v := .int .u8 x) rfl (by kernel_rfl) (by kernel_rfl) (by kernel_rfl) (by decide) (fun _ _ _ h => h) h01 rfl hHeld (Or.inl ⟨by rfl, ?_⟩) ?_
                · (intro W9 hSw; obtain ⟨v1, v2, v3⟩ := hSw; have hca := conv_RB v1; rw [HSX.out] at hca; have hcb := conv_RB v2; rw [HSY.out] at hcb; have hsl := HSL.out; clear v1 v2; go_simp; (try (first | with_reducible rfl | rfl | (rw [HWR.out]; done) | (rw [HWR2.out]; done) | (simp; done))))
                try simp only [Act.put, List.setIfInBounds_toArray, List.set_cons_zero, List.set_cons_succ]
                refine wpG_takeB (i := 20) (oi := ⟨some 177, _, _, _, _, _⟩) (v := .slice A n cA) rfl (by kernel_rfl) (by kernel_rfl) (by kernel_rfl) (by decide) (fun _ _ _ h => h) h01 rfl hHeld (Or.inl ⟨by rfl, ?_⟩) ?_
                · (intro W9 hSw; obtain ⟨v1, v2, v3⟩ := hSw; have hca := conv_RB v1; rw [HSX.out] at hca; have hcb := conv_RB v2; rw [HSY.out] at hcb; have hsl := HSL.out; clear v1 v2; go_simp; (try (first | with_reducible rfl | rfl | (rw [HWR.out]; done) | (rw [HWR2.out]; done) | (simp; done))))
                try simp only [Act.put, List.setIfInBounds_toArray, List.set_cons_zero, List.set_cons_succ]
                refine wpG_takeB (i := 21) (oi := ⟨some 178, _, _, _, _, _⟩) (v := .int .i64 (d : Int)) rfl (by kernel_rfl) (by kernel_rfl) (by kernel_rfl) (by decide) (fun _ _ _ h => h) h01 rfl hHeld (Or.inl ⟨by rfl, ?_⟩) ?_
                · (intro W9 hSw; obtain ⟨v1, v2, v3⟩ := hSw; have hca := conv_RB v1; rw [HSX.out] at hca; have hcb := conv_RB v2; rw [HSY.out] at hcb; have hsl := HSL.out; clear v1 v2; go_simp; (try (first | with_reducible rfl | rfl | (rw [HWR.out]; done) | (rw [HWR2.out]; done) | (simp; done))))
                try simp only [Act.put, List.setIfInBounds_toArray, List.set_cons_zero, List.set_cons_succ]
                refine wpG_takeB (i := 22) (oi := ⟨some 179, _, _, _, _, _⟩) (v := .int .i64 (d : Int)) rfl (by kernel_rfl) (by kernel_rfl) (by kernel_rfl) (by decide) (fun _ _ _ h => h) h01 rfl hHeld (Or.inl ⟨by rfl, ?_⟩) ?_
                · (intro W9 hSw; obtain ⟨v1, v2, v3⟩ := hSw; have hca := conv_RB v1; rw [HSX.out] at hca; have hcb := conv_RB v2; rw [HSY.out] at hcb; have hsl := HSL.out; clear v1 v2; go_simp; (try (first | with_reducible rfl | rfl | (rw [HWR.out]; done) | (rw [HWR2.out]; done) | (simp; done))))
                try simp only [Act.put, List.setIfInBounds_toArray, List.set_cons_zero, List.set_cons_succ]
                refine wpG_takeB (i := 23) (oi := ⟨some 180, _, _, _, _, _⟩) (v := .slice A1 k c1) rfl (by kernel_rfl) (by kernel_rfl) (by kernel_rfl) (by decide) (fun _ _ _ h => h) h01 rfl hHeld (Or.inl ⟨by rfl, ?_⟩) ?_
                · (intro W9 hSw; obtain ⟨v1, v2, v3⟩ := hSw; have hca := conv_RB v1; rw [HSX.out] at hca; have hcb := conv_RB v2; rw [HSY.out] at hcb; have hsl := HSL.out; clear v1 v2; go_simp; (try (first | with_reducible rfl | rfl | (rw [HWR.out]; done) | (rw [HWR2.out]; done) | (simp; done))))
                try simp only [Act.put, List.setIfInBounds_toArray, List.set_cons_zero, List.set_cons_succ]
                refine wpG_takeB (i := 24) (oi := ⟨some 181, _, _, _, _, _⟩) (v := .int .i64 (k : Int)) rfl (by kernel_rfl) (by kernel_rfl) (by kernel_rfl) (by decide) (fun _ _ _ h => h) h01 rfl hHeld (Or.inl ⟨by rfl, ?_⟩) ?_
                · (intro W9 hSw; obtain ⟨v1, v2, v3⟩ := hSw; have hca := conv_RB v1; rw [HSX.out] at hca; have hcb := conv_RB v2; rw [HSY.out] at hcb; have hsl := HSL.out; clear v1 v2; go_simp; (try (first | with_reducible rfl | rfl | (rw [HWR.out]; done) | (rw [HWR2.out]; done) | (simp; done))))
                try simp only [Act.put, List.setIfInBounds_toArray, List.set_cons_zero, List.set_cons_succ]
                refine wpG_takeB (i := 25) (oi := ⟨some 182, _, _, _, _, _⟩) (v := .int .i64 ((d : Int) + k)) rfl (by kernel_rfl) (by kernel_rfl) (by kernel_rfl) (by decide) (fun _ _ _ h => h) h01 rfl hHeld (Or.inl ⟨by rfl, ?_⟩) ?_
                · (intro W9 hSw; obtain ⟨v1, v2, v3⟩ := hSw; have hca := conv_RB v1; rw [HSX.out] at hca; have hcb := conv_RB v2; rw [HSY.out] at hcb; have hsl := HSL.out; clear v1 v2; go_simp; (try (first | with_reducible rfl | rfl | (rw [HWR.out]; done) | (rw [HWR2.out]; done) | (simp; done))))
                try simp only [Act.put, List.setIfInBounds_toArray, List.set_cons_zero, List.set_cons_succ]
                refine wpG_takeB (i := 26) (oi := ⟨some 183, _, _, _, _, _⟩) (v := .int .i64 ((d : Int) + k + 1)) rfl (by kernel_rfl) (by kernel_rfl) (by kernel_rfl) (by decide) (fun _ _ _ h => h) h01 rfl hHeld (Or.inl ⟨by rfl, ?_⟩) ?_
                · (intro W9 hSw; obtain ⟨v1, v2, v3⟩ := hSw; have hca := conv_RB v1; rw [HSX.out] at hca; have hcb := conv_RB v2; rw [HSY.out] at hcb; have hsl := HSL.out; clear v1 v2; go_simp; (try (first | with_reducible rfl | rfl | (rw [HWR.out]; done) | (rw [HWR2.out]; done) | (simp; done))))
                try simp only [Act.put, List.setIfInBounds_toArray, List.set_cons_zero, List.set_cons_succ]
                refine wpG_takeB (i := 27) (oi := ⟨some 184, _, _, _, _, _⟩) (v := .slice A' (k + 1) c') rfl (by kernel_rfl) (by kernel_rfl) (by kernel_rfl) (by decide) (fun _ _ _ h => h) h01 rfl hHeld (Or.inl ⟨by rfl, ?_⟩) ?_
                · (intro W9 hSw; obtain ⟨v1, v2, v3⟩ := hSw; have hca := conv_RB v1; rw [HSX.out] at hca; have hcb := conv_RB v2; rw [HSY.out] at hcb; have hsl := HSL.out; clear v1 v2; go_simp; (try (first | with_reducible rfl | rfl | (rw [HWR.out]; done) | (rw [HWR2.out]; done) | (simp; done))))
                try simp only [Act.put, List.setIfInBounds_toArray, List.set_cons_zero, List.set_cons_succ]
                refine wpG_takeB (i := 28) (oi := ⟨some 185, _, _, _, _, _⟩) (v := .string Sy) rfl (by kernel_rfl) (by kernel_rfl) (by kernel_rfl) (by decide) (fun _ _ _ h => h) h01 rfl hHeld (Or.inl ⟨by rfl, ?_⟩) ?_
                · (intro W9 hSw; obtain ⟨v1, v2, v3⟩ := hSw; have hca := conv_RB v1; rw [HSX.out] at hca; have hcb := conv_RB v2; rw [HSY.out] at hcb; have hsl := HSL.out; clear v1 v2; go_simp; (try (first | with_reducible rfl | rfl | (rw [HWR.out]; done) | (rw [HWR2.out]; done) | (simp; done))))
                try simp only [Act.put, List.setIfInBounds_toArray, List.set_cons_zero, List.set_cons_succ]
                refine wpG_oneB (i := 17) (o := ⟨some 174, _, _, _, _, _⟩) (by kernel_rfl) rfl rfl (fun K hK => ?_)
                go_simp
                have HBq := Lib.hid (show Below wq.heap.size wq (wq.alloc (.cells #[.int .u8 x] 5)).drew from below_drew ((Below.refl _ _).alloc (Nat.le_refl _) _))
                have hcz := HCZ.out
                have hcw := HCW.out
                have hcl := HCL.out
                refine hK.out _ _ (HSA.out _ HBq.out) (fun hHeld => ?_)
                clear hK K
                try simp only [Act.put, List.setIfInBounds_toArray, List.set_cons_zero, List.set_cons_succ]
                refine wpG_oneB (i := 18) (o := ⟨some 175, _, _, _, _, _⟩) (by kernel_rfl) rfl rfl (fun K hK => ?_)
                go_simp
                refine hK.out _ _ (HSA.out _ HBq.out) (fun hHeld => ?_)
                clear hK K
                try simp only [Act.put, List.setIfInBounds_toArray, List.set_cons_zero, List.set_cons_succ]
                refine wpG_oneB (i := 19) (o := ⟨some 176, _, _, _, _, _⟩) (by kernel_rfl) rfl rfl (fun K hK => ?_)
                go_simp
                rw [if_neg (show ¬ 9223372036854775807 < k + 1 by have := HLE.out; have := HL.out; omega)]
                go_simp
                refine hK.out _ _ (HSA.out _ HBq.out) (fun hHeld => ?_)
                clear hK K
                try simp only [Act.put, List.setIfInBounds_toArray, List.set_cons_zero, List.set_cons_succ]
                refine wpG_oneB (i := 29) (o := ⟨some 186, _, _, _, _, _⟩) (by kernel_rfl) rfl rfl (fun K hK => ?_)
                go_simp
                refine hK.out _ _ (HSA.out _ HBq.out) (fun hHeld => ?_)
                clear hK K
                try simp only [Act.put, List.setIfInBounds_toArray, List.set_cons_zero, List.set_cons_succ]
                refine wpG_takeB (i := 30) (oi := ⟨some 187, _, _, _, _, _⟩) (v := .bool false) rfl (by kernel_rfl) (by kernel_rfl) (by kernel_rfl) (by decide) (fun _ _ _ h => h) h01 rfl hHeld (Or.inl ⟨by rfl, ?_⟩) ?_
                · (intro W9 hSw; obtain ⟨v1, v2, v3⟩ := hSw; have hca := conv_RB v1; rw [HSX.out] at hca; have hcb := conv_RB v2; rw [HSY.out] at hcb; have hsl := HSL.out; clear v1 v2; go_simp; (try (first | with_reducible rfl | rfl | (rw [HWR.out]; done) | (rw [HWR2.out]; done) | (simp; done))))
                try simp only [Act.put, List.setIfInBounds_toArray, List.set_cons_zero, List.set_cons_succ]
                refine wpG_takeB (i := 31) (oi := ⟨some 188, _, _, _, _, _⟩) (v := .bool false) rfl (by kernel_rfl) (by kernel_rfl) (by kernel_rfl) (by decide) (fun _ _ _ h => h) h01 rfl hHeld (Or.inl ⟨by rfl, ?_⟩) ?_
                · (intro W9 hSw; obtain ⟨v1, v2, v3⟩ := hSw; have hca := conv_RB v1; rw [HSX.out] at hca; have hcb := conv_RB v2; rw [HSY.out] at hcb; have hsl := HSL.out; clear v1 v2; go_simp; (try (first | with_reducible rfl | rfl | (rw [HWR.out]; done) | (rw [HWR2.out]; done) | (simp; done))))
                try simp only [Act.put, List.setIfInBounds_toArray, List.set_cons_zero, List.set_cons_succ]
                refine wpG_done (by kernel_rfl) ?_ _
                go_wp2_with fail
                go_meet
                case rel => exact ⟨A1, k, c1, A2, k, c2, 0, d + (k + 1), v3', v4', _, rfl, rfl, rfl, rfl, by have := HLE.out; omega, RB1.out.below HBq.out, TL.out.rb.below HBq.out, by have := (TL.out.two.swap).over HBq.out; simp only [Src.at, List.drop_drop] at this; exact this⟩
          case rest =>
            obtain ⟨A1, k1, c1, A2, k2, c2, E, d', v1', v2', L, rfl, rfl, rfl, rfl, hd', hr1, hr2, hT⟩ := hcut
            have HR1 := Lib.hid hr1
            have HR2 := Lib.hid hr2
            have HT := Lib.hid hT
            have HD := Lib.hid hd'
            obtain ⟨r, hr⟩ : ∃ r : Nat, n - d' = r := ⟨_, rfl⟩
            have HLR := Lib.hid (show (all.drop d').length = r by rw [List.length_drop, HA.out.len]; exact hr)
            have HRN := Lib.hid hr
            have hnd : (n : Int) - d' = r := by omega
            have hkk : k1 = L.length := hr1.len.symm
            have hkk2 : k2 = k1 := by rw [hkk]; exact hr2.len.symm
            subst hkk2
            clear hr1 hr2 hT hd' hr hkk HKY ky
            have C13 := Lib.hid (show Calls Try.prog 13 #[.pointer (some ⟨bs, 0, none⟩)] wc (fun e w' => e = .returned (.int .i64 d') ∧ Below wc.heap.size wc w') from off_some HT.out.a.ss)
            go_wp2_with (go_at_call 13; (with_reducible refine C13.out.mono ?_); rintro e w5 ⟨rfl, hb⟩; refine Hid.out ?_)
            refine Lib.hid ?_
            have T5 := Lib.hid (HT.out.over hb)
            have hc1 := conv_RB (HR1.out.below hb)
            have hc2 := conv_RB (HR2.out.below hb)
            obtain ⟨Sx, hSx⟩ : ∃ Sx : ByteArray, ⟨L.toArray⟩ = Sx := ⟨_, rfl⟩
            rw [hSx] at hc1 hc2
            clear hb hSx
            have D13 := Lib.hid (show Calls Try.prog 13 #[.pointer (some ⟨ct, 0, none⟩)] w5 (fun e w' => e = .returned (.int .i64 d') ∧ Below w5.heap.size w5 w') from off_some T5.out.b.ss)
            have C14 := Lib.hid (show ∀ W, Below w5.heap.size w5 W → Calls Try.prog 14 #[.pointer (some ⟨bs, 0, none⟩)] W (fun e w' => e = .returned (.int .i64 r) ∧ Below W.heap.size W w') from fun W hb => by have := left_some (T5.out.over hb).a.ss; simp only at this; rw [HLR.out] at this; exact this)
            have D14 := Lib.hid (show ∀ W, Below w5.heap.size w5 W → Calls Try.prog 14 #[.pointer (some ⟨ct, 0, none⟩)] W (fun e w' => e = .returned (.int .i64 r) ∧ Below W.heap.size W w') from fun W hb => by have := left_some (T5.out.over hb).b.ss; simp only at this; rw [HLR.out] at this; exact this)
            go_wp2_with (first
              | (go_at_call 13; (with_reducible refine D13.out.mono ?_); rintro e w6 ⟨rfl, hb⟩; have B6 := Lib.hid hb; clear hb)
              | (go_at_call 14; (with_reducible refine (C14.out _ B6.out).mono ?_); rintro e w7 ⟨rfl, hb⟩; have B7 := Lib.hid (B6.out.trans (hb.mono B6.out.size)); clear hb B6; have B6 := B7; clear B7)
              | (go_at_call 14; (with_reducible refine (D14.out _ B6.out).mono ?_); rintro e w7 ⟨rfl, hb⟩; have B7 := Lib.hid (B6.out.trans (hb.mono B6.out.size)); clear hb B6; have B6 := B7; clear B7))
            go_roundw
            case rel => exact ⟨d', i + 1, v1', v2', by have := HLT.out; omega, rfl, by go_num, Lib.hid ⟨HD.out, T5.out.over B6.out⟩⟩
            case measure => have := HLT.out; simp [intOf]; omega
        · have HT := Lib.hid HR.out.2
          have HD := Lib.hid HR.out.1
          have C14 := Lib.hid (show Calls Try.prog 14 #[.pointer (some ⟨bs, 0, none⟩)] wo (fun e w' => e = .returned (.int .i64 ((n - d : Nat) : Int)) ∧ Below wo.heap.size wo w') from by have := left_some HT.out.a.ss; simp only at this; rw [HLD.out] at this; exact this)
          go_wp2_with (go_at_call 14; refine Hid.out ?_)
          refine Lib.hid ?_
          (with_reducible refine C14.out.mono ?_); rintro e w5 ⟨rfl, hb⟩
          have T5 := Lib.hid (HT.out.over hb)
          clear hb
          have C11 := Lib.hid (show Calls Try.prog 11 #[.pointer (some ⟨bs, 0, none⟩), .int .i64 ((n - d : Nat) : Int)] w5 (fun e w' => ∃ A c v', e = .returned (.tuple #[.slice A (n - d) c, .int .i64 0]) ∧ Tk2 w w5 w' 1000 ⟨bs, bt, bb, v1, all.drop d, d⟩ ⟨ct, dt, db, v2, all.drop d, d⟩ A c (n - d) (n - d) v') from T5.out.take_ok HDN.out (n - d) (by have := HLD.out; simp only; omega))
          go_wp2_with (go_at_call 11; refine Hid.out ?_)
          refine Lib.hid ?_
          (with_reducible refine C11.out.mono ?_); rintro e wq ⟨A1, c1, v3', rfl, ht⟩
          have TK := Lib.hid ht
          clear ht
          obtain ⟨A', c', hsl, hrb, -⟩ := slice_from wq A n cA d all (HA.out.below (TK.out.two.a.below.mono (Nat.le_refl _))) HD.out
          have HSL := Lib.hid hsl
          have HRB' := Lib.hid hrb
          have RB1 := Lib.hid (show RB wq A1 (n - d) c1 (all.drop d) from by have := TK.out.rb; rwa [List.take_of_length_le (by have := HLD.out; simp only; omega)] at this)
          have HBW := Lib.hid TK.out.two.a.below
          have HSA := Lib.hid (show ∀ W, Below wq.heap.size wq W → TwoR A1 (n - d) c1 A' (n - d) c' (all.drop d) W from fun W hb => ⟨RB1.out.below hb, HRB'.out.below hb⟩)
          have HS8 := Lib.hid (HSA.out wq.drew (below_drew (Below.refl _ _)))
          obtain ⟨Sx, hSx⟩ : ∃ Sx : ByteArray, ⟨(all.drop d).toArray⟩ = Sx := ⟨_, rfl⟩
          have HSX := Lib.hid hSx
          have hd1 : (d : Int) ≤ n := by have := HD.out; omega
          clear hsl hrb hSx
          go_wp2_with fail
          refine wp_region_G (S0 := (TwoR A1 (n - d) c1 A' (n - d) c' (all.drop d))) (S1 := (TwoR A1 (n - d) c1 A' (n - d) c' (all.drop d))) (c := 99) (by kernel_rfl) ?_
          have hHeld := HS8.out
          have h01 := (fun (W : World) (h : (TwoR A1 (n - d) c1 A' (n - d) c' (all.drop d)) W) => h)
          refine wpG_takeB (i := 0) (oi := ⟨some 230, _, _, _, _, _⟩) (v := .int .i64 0) rfl (by kernel_rfl) (by kernel_rfl) (by kernel_rfl) (by decide) (fun _ _ _ h => h) h01 rfl hHeld (Or.inl ⟨by rfl, ?_⟩) ?_
          · (intro W9 hSw; obtain ⟨v1, v2⟩ := hSw; have hca := conv_RB v1; rw [HSX.out] at hca; have hcb := conv_RB v2; rw [HSX.out] at hcb; have hsl := HSL.out; clear v1 v2; go_simp; (try (first | with_reducible rfl | rfl | (rw [HWR.out]; done) | (rw [HWR2.out]; done) | (simp; done))))
          try simp only [Act.put, List.setIfInBounds_toArray, List.set_cons_zero, List.set_cons_succ]
          refine wpG_takeB (i := 1) (oi := ⟨some 231, _, _, _, _, _⟩) (v := .bool true) rfl (by kernel_rfl) (by kernel_rfl) (by kernel_rfl) (by decide) (fun _ _ _ h => h) h01 rfl hHeld (Or.inl ⟨by rfl, ?_⟩) ?_
          · (intro W9 hSw; obtain ⟨v1, v2⟩ := hSw; have hca := conv_RB v1; rw [HSX.out] at hca; have hcb := conv_RB v2; rw [HSX.out] at hcb; have hsl := HSL.out; clear v1 v2; go_simp; (try (first | with_reducible rfl | rfl | (rw [HWR.out]; done) | (rw [HWR2.out]; done) | (simp; done))))
          try simp only [Act.put, List.setIfInBounds_toArray, List.set_cons_zero, List.set_cons_succ]
          refine wpG_takeB (i := 2) (oi := ⟨some 232, _, _, _, _, _⟩) (v := .bool true) rfl (by kernel_rfl) (by kernel_rfl) (by kernel_rfl) (by decide) (fun _ _ _ h => h) h01 rfl hHeld (Or.inl ⟨by rfl, ?_⟩) ?_
          · (intro W9 hSw; obtain ⟨v1, v2⟩ := hSw; have hca := conv_RB v1; rw [HSX.out] at hca; have hcb := conv_RB v2; rw [HSX.out] at hcb; have hsl := HSL.out; clear v1 v2; go_simp; (try (first | with_reducible rfl | rfl | (rw [HWR.out]; done) | (rw [HWR2.out]; done) | (simp; done))))
          try simp only [Act.put, List.setIfInBounds_toArray, List.set_cons_zero, List.set_cons_succ]
          refine wpG_takeB (i := 3) (oi := ⟨some 233, _, _, _, _, _⟩) (v := .slice A1 (n - d) c1) rfl (by kernel_rfl) (by kernel_rfl) (by kernel_rfl) (by decide) (fun _ _ _ h => h) h01 rfl hHeld (Or.inl ⟨by rfl, ?_⟩) ?_
          · (intro W9 hSw; obtain ⟨v1, v2⟩ := hSw; have hca := conv_RB v1; rw [HSX.out] at hca; have hcb := conv_RB v2; rw [HSX.out] at hcb; have hsl := HSL.out; clear v1 v2; go_simp; (try (first | with_reducible rfl | rfl | (rw [HWR.out]; done) | (rw [HWR2.out]; done) | (simp; done))))
          try simp only [Act.put, List.setIfInBounds_toArray, List.set_cons_zero, List.set_cons_succ]
          refine wpG_takeB (i := 4) (oi := ⟨some 234, _, _, _, _, _⟩) (v := .string Sx) rfl (by kernel_rfl) (by kernel_rfl) (by kernel_rfl) (by decide) (fun _ _ _ h => h) h01 rfl hHeld (Or.inl ⟨by rfl, ?_⟩) ?_
          · (intro W9 hSw; obtain ⟨v1, v2⟩ := hSw; have hca := conv_RB v1; rw [HSX.out] at hca; have hcb := conv_RB v2; rw [HSX.out] at hcb; have hsl := HSL.out; clear v1 v2; go_simp; (try (first | with_reducible rfl | rfl | (rw [HWR.out]; done) | (rw [HWR2.out]; done) | (simp; done))))
          try simp only [Act.put, List.setIfInBounds_toArray, List.set_cons_zero, List.set_cons_succ]
          refine wpG_takeB (i := 5) (oi := ⟨some 235, _, _, _, _, _⟩) (v := .slice A n cA) rfl (by kernel_rfl) (by kernel_rfl) (by kernel_rfl) (by decide) (fun _ _ _ h => h) h01 rfl hHeld (Or.inl ⟨by rfl, ?_⟩) ?_
          · (intro W9 hSw; obtain ⟨v1, v2⟩ := hSw; have hca := conv_RB v1; rw [HSX.out] at hca; have hcb := conv_RB v2; rw [HSX.out] at hcb; have hsl := HSL.out; clear v1 v2; go_simp; (try (first | with_reducible rfl | rfl | (rw [HWR.out]; done) | (rw [HWR2.out]; done) | (simp; done))))
          try simp only [Act.put, List.setIfInBounds_toArray, List.set_cons_zero, List.set_cons_succ]
          refine wpG_takeB (i := 6) (oi := ⟨some 236, _, _, _, _, _⟩) (v := .int .i64 (d : Int)) rfl (by kernel_rfl) (by kernel_rfl) (by kernel_rfl) (by decide) (fun _ _ _ h => h) h01 rfl hHeld (Or.inl ⟨by rfl, ?_⟩) ?_
          · (intro W9 hSw; obtain ⟨v1, v2⟩ := hSw; have hca := conv_RB v1; rw [HSX.out] at hca; have hcb := conv_RB v2; rw [HSX.out] at hcb; have hsl := HSL.out; clear v1 v2; go_simp; (try (first | with_reducible rfl | rfl | (rw [HWR.out]; done) | (rw [HWR2.out]; done) | (simp; done))))
          try simp only [Act.put, List.setIfInBounds_toArray, List.set_cons_zero, List.set_cons_succ]
          refine wpG_takeB (i := 7) (oi := ⟨some 237, _, _, _, _, _⟩) (v := .slice A' (n - d) c') rfl (by kernel_rfl) (by kernel_rfl) (by kernel_rfl) (by decide) (fun _ _ _ h => h) h01 rfl hHeld (Or.inl ⟨by rfl, ?_⟩) ?_
          · (intro W9 hSw; obtain ⟨v1, v2⟩ := hSw; have hca := conv_RB v1; rw [HSX.out] at hca; have hcb := conv_RB v2; rw [HSX.out] at hcb; have hsl := HSL.out; clear v1 v2; go_simp; (try (first | with_reducible rfl | rfl | (rw [HWR.out]; done) | (rw [HWR2.out]; done) | (simp; done))))
          try simp only [Act.put, List.setIfInBounds_toArray, List.set_cons_zero, List.set_cons_succ]
          refine wpG_takeB (i := 8) (oi := ⟨some 238, _, _, _, _, _⟩) (v := .string Sx) rfl (by kernel_rfl) (by kernel_rfl) (by kernel_rfl) (by decide) (fun _ _ _ h => h) h01 rfl hHeld (Or.inl ⟨by rfl, ?_⟩) ?_
          · (intro W9 hSw; obtain ⟨v1, v2⟩ := hSw; have hca := conv_RB v1; rw [HSX.out] at hca; have hcb := conv_RB v2; rw [HSX.out] at hcb; have hsl := HSL.out; clear v1 v2; go_simp; (try (first | with_reducible rfl | rfl | (rw [HWR.out]; done) | (rw [HWR2.out]; done) | (simp; done))))
          try simp only [Act.put, List.setIfInBounds_toArray, List.set_cons_zero, List.set_cons_succ]
          refine wpG_takeB (i := 9) (oi := ⟨some 239, _, _, _, _, _⟩) (v := .bool true) rfl (by kernel_rfl) (by kernel_rfl) (by kernel_rfl) (by decide) (fun _ _ _ h => h) h01 rfl hHeld (Or.inl ⟨by rfl, ?_⟩) ?_
          · (intro W9 hSw; obtain ⟨v1, v2⟩ := hSw; have hca := conv_RB v1; rw [HSX.out] at hca; have hcb := conv_RB v2; rw [HSX.out] at hcb; have hsl := HSL.out; clear v1 v2; go_simp; (try (first | with_reducible rfl | rfl | (rw [HWR.out]; done) | (rw [HWR2.out]; done) | (simp; done))))
          try simp only [Act.put, List.setIfInBounds_toArray, List.set_cons_zero, List.set_cons_succ]
          refine wpG_takeB (i := 10) (oi := ⟨some 240, _, _, _, _, _⟩) (v := .bool true) rfl (by kernel_rfl) (by kernel_rfl) (by kernel_rfl) (by decide) (fun _ _ _ h => h) h01 rfl hHeld (Or.inl ⟨by rfl, ?_⟩) ?_
          · (intro W9 hSw; obtain ⟨v1, v2⟩ := hSw; have hca := conv_RB v1; rw [HSX.out] at hca; have hcb := conv_RB v2; rw [HSX.out] at hcb; have hsl := HSL.out; clear v1 v2; go_simp; (try (first | with_reducible rfl | rfl | (rw [HWR.out]; done) | (rw [HWR2.out]; done) | (simp; done))))
          try simp only [Act.put, List.setIfInBounds_toArray, List.set_cons_zero, List.set_cons_succ]
          refine wpG_takeB (i := 11) (oi := ⟨some 241, _, _, _, _, _⟩) (v := .bool true) rfl (by kernel_rfl) (by kernel_rfl) (by kernel_rfl) (by decide) (fun _ _ _ h => h) h01 rfl hHeld (Or.inl ⟨by rfl, ?_⟩) ?_
          · (intro W9 hSw; obtain ⟨v1, v2⟩ := hSw; have hca := conv_RB v1; rw [HSX.out] at hca; have hcb := conv_RB v2; rw [HSX.out] at hcb; have hsl := HSL.out; clear v1 v2; go_simp; (try (first | with_reducible rfl | rfl | (rw [HWR.out]; done) | (rw [HWR2.out]; done) | (simp; done))))
          try simp only [Act.put, List.setIfInBounds_toArray, List.set_cons_zero, List.set_cons_succ]
          refine wpG_oneB (i := 12) (o := ⟨some 242, _, _, _, _, _⟩) (by kernel_rfl) rfl rfl (fun K hK => ?_)
          go_simp
          (with_reducible refine (known_any _).mono ?_); rintro e w9 ⟨rfl, b9⟩
          have B9 := Lib.hid (show Below wq.heap.size wq w9 from (below_drew (Below.refl wq.heap.size wq)).trans b9)
          refine hK.out _ _ (HSA.out _ B9.out) (fun hHeld => ?_)
          clear hK K
          try simp only [Act.put, List.setIfInBounds_toArray, List.set_cons_zero, List.set_cons_succ]
          refine wpG_takeB (i := 13) (oi := ⟨some 243, _, _, _, _, _⟩) (v := .bool true) rfl (by kernel_rfl) (by kernel_rfl) (by kernel_rfl) (by decide) (fun _ _ _ h => h) h01 rfl hHeld (Or.inl ⟨by rfl, ?_⟩) ?_
          · (intro W9 hSw; obtain ⟨v1, v2⟩ := hSw; have hca := conv_RB v1; rw [HSX.out] at hca; have hcb := conv_RB v2; rw [HSX.out] at hcb; have hsl := HSL.out; clear v1 v2; go_simp; (try (first | with_reducible rfl | rfl | (rw [HWR.out]; done) | (rw [HWR2.out]; done) | (simp; done))))
          try simp only [Act.put, List.setIfInBounds_toArray, List.set_cons_zero, List.set_cons_succ]
          refine wpG_takeB (i := 14) (oi := ⟨some 6, _, _, _, _, _⟩) (v := .bool true) rfl (by kernel_rfl) (by kernel_rfl) (by kernel_rfl) (by decide) (fun _ _ _ h => h) h01 rfl hHeld (Or.inl ⟨by rfl, ?_⟩) ?_
          · (intro W9 hSw; obtain ⟨v1, v2⟩ := hSw; have hca := conv_RB v1; rw [HSX.out] at hca; have hcb := conv_RB v2; rw [HSX.out] at hcb; have hsl := HSL.out; clear v1 v2; go_simp; (try (first | with_reducible rfl | rfl | (rw [HWR.out]; done) | (rw [HWR2.out]; done) | (simp; done))))
          try simp only [Act.put, List.setIfInBounds_toArray, List.set_cons_zero, List.set_cons_succ]
          refine wpG_done (by kernel_rfl) ?_ _
          go_wp2_with fail
          go_ret
          exact ⟨rfl, HBW.out.trans (B9.out.mono HBW.out.size)⟩
end Go.Proofs.Ythkpmbgclllnjaa

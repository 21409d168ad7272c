/- The contract of varint.Begins. -/
import Derived.Test.YtibkhjpjneoabaaVrApp
namespace Go.Proofs.Ytibkhjpjneoabaa.Vr
open Go.RowKit

def bump (low st lo : Int) : Int := if low < lo then low + (lo - low + st - 1) / st * st else low
def begLow (l : List UInt8) (loose : Bool) (lo : Int) : Int :=
  bump ((valOf l : Int) + (if loose = false ∧ 0 < l.length then ((128 ^ l.length : Nat) : Int) else 0)) ((128 ^ l.length : Nat) : Int) lo
/-- What Begins gives. -/
def beginsS (l : List UInt8) (loose : Bool) (lo hi : Int) : Bool × Int :=
  if lo < 0 ∨ hi < lo ∨ 34359738368 ≤ hi then (false, 2)
  else if (readS l loose).2.2 = 0 then (decide ((readS l loose).2.1 = (l.length : Int) ∧ lo ≤ (readS l loose).1 ∧ (readS l loose).1 ≤ hi), 0)
  else if (readS l loose).2.2 ≠ 4 then (false, 0)
  else (decide (begLow l loose lo ≤ hi), 0)
def tupB (r : Bool × Int) : Value := .tuple #[.bool r.1, .int .i64 r.2]

section
variable (A : Option Addr) (n c B : Nat) (l : List UInt8) (loose : Bool) (lo hi : Int) (w : World)

set_option maxRecDepth 100000 in
set_option maxHeartbeats 1000000 in
theorem begins_bad (h : lo < 0 ∨ hi < lo ∨ 34359738368 ≤ hi) :
    Calls Try.prog 48 #[.slice A n c, .bool loose, .agg #[.int .i64 lo, .int .i64 hi]] w fun e w' => e = .returned (tupB (beginsS l loose lo hi)) ∧ Below w.heap.size w w' := by
  have hr : beginsS l loose lo hi = (false, 2) := by unfold beginsS; rw [if_pos h]
  have HR := Lib.hid hr
  clear hr
  by_cases h1 : lo < 0
  · clear h
    go_enter Try.func48, Try.ntmps48
    go_wp2_with fail
    go_ret2
    exact ⟨by rw [HR.out]; rfl, (Below.refl _ _).alloc (Nat.le_refl _) _⟩
  · by_cases h2 : hi < lo
    · clear h
      go_enter Try.func48, Try.ntmps48
      go_wp2_with fail
      go_ret2
      exact ⟨by rw [HR.out]; rfl, (Below.refl _ _).alloc (Nat.le_refl _) _⟩
    · have h3 : hi < 0 ∨ 34359738368 ≤ hi := by omega
      clear h
      have H3 := Lib.hid h3
      clear h3
      go_enter Try.func48, Try.ntmps48
      go_wp2_with (first | (go_at_call 57; (with_reducible refine (allowed_no _ _ H3.out).mono ?_); rintro e w' ⟨rfl, rfl⟩))
      go_ret2
      exact ⟨by rw [HR.out]; rfl, (Below.refl _ _).alloc (Nat.le_refl _) _⟩

theorem readS_v0 : 0 ≤ (readS l loose).1 := by
  unfold readS; dsimp only; (repeat' split) <;> simp

set_option maxRecDepth 100000 in
set_option maxHeartbeats 1000000 in
theorem begins_done (hlo : 0 ≤ lo) (hlh : lo ≤ hi) (hhi : hi < 34359738368) (hl : l.length = n) (hn : n ≤ 60000) (hc : n ≤ c) (hb : BS w w.heap.size A l) (he : (readS l loose).2.2 = 0) :
    Calls Try.prog 48 #[.slice A n c, .bool loose, .agg #[.int .i64 lo, .int .i64 hi]] w fun e w' => e = .returned (tupB (beginsS l loose lo hi)) ∧ Below w.heap.size w w' := by
  have hr : beginsS l loose lo hi = (decide ((readS l loose).2.1 = (l.length : Int) ∧ lo ≤ (readS l loose).1 ∧ (readS l loose).1 ≤ hi), 0) := by unfold beginsS; rw [if_neg (by omega), if_pos he]
  rw [hl] at hr
  have c1 := read_any A n c w.heap.size l loose (w.alloc (.cells #[.int .i64 lo, .int .i64 hi] 90)) hl hn hc (hb.alloc (Nat.le_refl _) _)
  rcases hrd : readS l loose with ⟨x, m, e⟩
  rw [hrd] at hr c1 he
  simp only at he hr
  subst he
  simp only [tup3] at c1
  have C1 := Lib.hid c1
  have HR := Lib.hid hr
  clear c1 hr hb hl hrd
  by_cases h1 : m = (n : Int)
  · have d1 : (m == (n : Int)) = true := by simp [h1]
    have H1 := Lib.hid h1
    clear h1
    by_cases h2 : lo ≤ x
    · have d2 : decide (lo ≤ x) = true := by simp [h2]
      go_enter Try.func48, Try.ntmps48
      go_wp2_with (first | (go_at_call 57; (with_reducible refine (allowed_yes _ _ (by omega) hhi).mono ?_); rintro e w' ⟨rfl, rfl⟩) | (go_at_call 47; (with_reducible refine C1.out.mono ?_); rintro e w' ⟨rfl, rfl⟩))
      go_ret2
      refine ⟨?_, (Below.refl _ _).alloc (Nat.le_refl _) _⟩
      rw [HR.out]
      simp [tupB, H1.out, h2]
    · have d2 : decide (lo ≤ x) = false := by simp; omega
      have H2 := Lib.hid h2
      clear h2
      go_enter Try.func48, Try.ntmps48
      go_wp2_with (first | (go_at_call 57; (with_reducible refine (allowed_yes _ _ (by omega) hhi).mono ?_); rintro e w' ⟨rfl, rfl⟩) | (go_at_call 47; (with_reducible refine C1.out.mono ?_); rintro e w' ⟨rfl, rfl⟩))
      go_ret2
      refine ⟨?_, (Below.refl _ _).alloc (Nat.le_refl _) _⟩
      rw [HR.out]
      have := H2.out
      simp [tupB]; omega
  · have d1 : (m == (n : Int)) = false := by simp [h1]
    have H1 := Lib.hid h1
    clear h1
    by_cases h2 : lo ≤ x
    · go_enter Try.func48, Try.ntmps48
      go_wp2_with (first | (go_at_call 57; (with_reducible refine (allowed_yes _ _ (by omega) hhi).mono ?_); rintro e w' ⟨rfl, rfl⟩) | (go_at_call 47; (with_reducible refine C1.out.mono ?_); rintro e w' ⟨rfl, rfl⟩))
      go_ret2
      refine ⟨?_, (Below.refl _ _).alloc (Nat.le_refl _) _⟩
      rw [HR.out]
      have := H1.out
      simp [tupB]; omega
    · go_enter Try.func48, Try.ntmps48
      go_wp2_with (first | (go_at_call 57; (with_reducible refine (allowed_yes _ _ (by omega) hhi).mono ?_); rintro e w' ⟨rfl, rfl⟩) | (go_at_call 47; (with_reducible refine C1.out.mono ?_); rintro e w' ⟨rfl, rfl⟩))
      go_ret2
      refine ⟨?_, (Below.refl _ _).alloc (Nat.le_refl _) _⟩
      rw [HR.out]
      have := H1.out
      simp [tupB, this]

set_option maxRecDepth 100000 in
set_option maxHeartbeats 1000000 in
theorem begins_fmt (hlo : 0 ≤ lo) (hlh : lo ≤ hi) (hhi : hi < 34359738368) (hl : l.length = n) (hn : n ≤ 60000) (hc : n ≤ c) (hb : BS w w.heap.size A l) (he : (readS l loose).2.2 = 6) :
    Calls Try.prog 48 #[.slice A n c, .bool loose, .agg #[.int .i64 lo, .int .i64 hi]] w fun e w' => e = .returned (tupB (beginsS l loose lo hi)) ∧ Below w.heap.size w w' := by
  have hr : beginsS l loose lo hi = (false, 0) := by unfold beginsS; rw [if_neg (by omega), if_neg (by omega), if_pos (by omega)]
  have c1 := read_any A n c w.heap.size l loose (w.alloc (.cells #[.int .i64 lo, .int .i64 hi] 90)) hl hn hc (hb.alloc (Nat.le_refl _) _)
  rcases hrd : readS l loose with ⟨x, m, e⟩
  rw [hrd] at c1 he
  simp only at he
  subst he
  simp only [tup3] at c1
  have C1 := Lib.hid c1
  have HR := Lib.hid hr
  clear c1 hr hb hl hrd
  go_enter Try.func48, Try.ntmps48
  go_wp2_with (first | (go_at_call 57; (with_reducible refine (allowed_yes _ _ (by omega) hhi).mono ?_); rintro e w' ⟨rfl, rfl⟩) | (go_at_call 47; (with_reducible refine C1.out.mono ?_); rintro e w' ⟨rfl, rfl⟩))
  go_ret2
  exact ⟨by rw [HR.out]; rfl, (Below.refl _ _).alloc (Nat.le_refl _) _⟩

theorem readS_e4 (h : (readS l loose).2.2 = 4) : l.length < 5 := by
  unfold readS at h
  dsimp only at h
  split at h
  · split at h
    · assumption
    · simp at h
  · split at h <;> simp at h

set_option maxRecDepth 100000 in
set_option maxHeartbeats 1000000 in
theorem begins_short (hlo : 0 ≤ lo) (hlh : lo ≤ hi) (hhi : hi < 34359738368) (hl : l.length = n) (hc : n ≤ c) (hb : BS w w.heap.size A l) (he : (readS l loose).2.2 = 4) :
    Calls Try.prog 48 #[.slice A n c, .bool loose, .agg #[.int .i64 lo, .int .i64 hi]] w fun e w' => e = .returned (tupB (beginsS l loose lo hi)) ∧ Below w.heap.size w w' := by
  have hn : n < 5 := by have := readS_e4 l loose he; omega
  have hr : beginsS l loose lo hi = (decide (begLow l loose lo ≤ hi), 0) := by unfold beginsS; rw [if_neg (by omega), if_neg (by omega), if_neg (by omega)]
  have c1 := read_any A n c w.heap.size l loose (w.alloc (.cells #[.int .i64 lo, .int .i64 hi] 90)) hl (by omega) hc (hb.alloc (Nat.le_refl _) _)
  have c2 := fun k => value_any A n c w.heap.size l ((w.alloc (.cells #[.int .i64 lo, .int .i64 hi] 90)).drewN k) hl (by omega) ((hb.alloc (Nat.le_refl _) _).drewN k)
  rcases hrd : readS l loose with ⟨x, m, e⟩
  rw [hrd] at c1 he
  simp only at he
  subst he
  simp only [tup3] at c1
  have hv1 := valOf_lt l
  unfold begLow at hr
  rw [hl] at hr hv1
  obtain ⟨V, hV⟩ : ∃ V, valOf l = V := ⟨_, rfl⟩
  rw [hV] at hr hv1 c2
  have C1 := Lib.hid c1
  have C2 := Lib.hid c2
  clear c1 c2 hb hl hrd hV
  obtain ⟨st, hst⟩ : ∃ st : Int, ((128 ^ n : Nat) : Int) = st := ⟨_, rfl⟩
  have hw : wrap64 (2 ^ (7 * n)) = st := by
    have h5 : 128 ^ n ≤ 128 ^ 4 := Nat.pow_le_pow_right (by omega) (by omega)
    rw [← hst, show ((2 : Int) ^ (7 * n)) = ((128 ^ n : Nat) : Int) by rw [← pow128]; simp]
    exact IntWalk.wrap64_in _ ⟨by omega, by omega⟩
  have hst1 : 1 ≤ st := by
    have := Nat.pow_pos (n := n) (show 0 < 128 by omega)
    omega
  have hst2 : st ≤ 268435456 := by
    have h5 : 128 ^ n ≤ 128 ^ 4 := Nat.pow_le_pow_right (by omega) (by omega)
    omega
  have hV1 : (V : Int) < st := by omega
  rw [hst] at hr
  clear hst hv1
  by_cases hs : loose = false ∧ 0 < n
  · obtain ⟨rfl, hn0⟩ := hs
    rw [if_pos ⟨rfl, hn0⟩] at hr
    have hd : decide ((0 : Int) < (n : Int)) = true := by simp; omega
    by_cases hlw : (V : Int) + st < lo
    · have hq0 : 0 ≤ (lo - ((V : Int) + st) + st - 1) / st := Int.ediv_nonneg (by omega) (by omega)
      have hq1 : (lo - ((V : Int) + st) + st - 1) / st * st ≤ lo - ((V : Int) + st) + st - 1 := Int.ediv_mul_le _ (by omega)
      have hq2 : 0 ≤ (lo - ((V : Int) + st) + st - 1) / st * st := Int.mul_nonneg hq0 (by omega)
      unfold bump at hr; rw [if_pos hlw] at hr
      have HR := Lib.hid hr
      clear hr
      go_enter Try.func48, Try.ntmps48
      go_wp2_with (first | (go_at_call 57; (with_reducible refine (allowed_yes _ _ (by omega) hhi).mono ?_); rintro e w' ⟨rfl, rfl⟩) | (go_at_call 47; (with_reducible refine C1.out.mono ?_); rintro e w' ⟨rfl, rfl⟩))
      go_quiet ((go_at_call 70; exact quiet_left (C2.out _)))
      go_wp2
      go_ret2
      refine ⟨?_, below_drewN ((Below.refl _ _).alloc (Nat.le_refl _) _) _⟩
      rw [HR.out]
      rfl
    · unfold bump at hr; rw [if_neg hlw] at hr
      have HR := Lib.hid hr
      clear hr
      go_enter Try.func48, Try.ntmps48
      go_wp2_with (first | (go_at_call 57; (with_reducible refine (allowed_yes _ _ (by omega) hhi).mono ?_); rintro e w' ⟨rfl, rfl⟩) | (go_at_call 47; (with_reducible refine C1.out.mono ?_); rintro e w' ⟨rfl, rfl⟩))
      go_quiet ((go_at_call 70; exact quiet_left (C2.out _)))
      go_wp2
      go_ret2
      refine ⟨?_, below_drewN ((Below.refl _ _).alloc (Nat.le_refl _) _) _⟩
      rw [HR.out]
      rfl
  · rw [if_neg hs, Int.add_zero] at hr
    cases loose with
    | true =>
      clear hs
      by_cases hlw : (V : Int) < lo
      · have hq0 : 0 ≤ (lo - ((V : Int)) + st - 1) / st := Int.ediv_nonneg (by omega) (by omega)
        have hq1 : (lo - ((V : Int)) + st - 1) / st * st ≤ lo - ((V : Int)) + st - 1 := Int.ediv_mul_le _ (by omega)
        have hq2 : 0 ≤ (lo - ((V : Int)) + st - 1) / st * st := Int.mul_nonneg hq0 (by omega)
        unfold bump at hr; rw [if_pos hlw] at hr
        have HR := Lib.hid hr
        clear hr
        go_enter Try.func48, Try.ntmps48
        go_wp2_with (first | (go_at_call 57; (with_reducible refine (allowed_yes _ _ (by omega) hhi).mono ?_); rintro e w' ⟨rfl, rfl⟩) | (go_at_call 47; (with_reducible refine C1.out.mono ?_); rintro e w' ⟨rfl, rfl⟩))
        go_quiet ((go_at_call 70; exact quiet_left (C2.out _)))
        go_wp2
        go_ret2
        refine ⟨?_, below_drewN ((Below.refl _ _).alloc (Nat.le_refl _) _) _⟩
        rw [HR.out]
        rfl
      · unfold bump at hr; rw [if_neg hlw] at hr
        have HR := Lib.hid hr
        clear hr
        go_enter Try.func48, Try.ntmps48
        go_wp2_with (first | (go_at_call 57; (with_reducible refine (allowed_yes _ _ (by omega) hhi).mono ?_); rintro e w' ⟨rfl, rfl⟩) | (go_at_call 47; (with_reducible refine C1.out.mono ?_); rintro e w' ⟨rfl, rfl⟩))
        go_quiet ((go_at_call 70; exact quiet_left (C2.out _)))
        go_wp2
        go_ret2
        refine ⟨?_, below_drewN ((Below.refl _ _).alloc (Nat.le_refl _) _) _⟩
        rw [HR.out]
        rfl
    | false =>
      have hn00 : (n : Int) ≤ 0 := by simp at hs; omega
      clear hs
      by_cases hlw : (V : Int) < lo
      · have hq0 : 0 ≤ (lo - ((V : Int)) + st - 1) / st := Int.ediv_nonneg (by omega) (by omega)
        have hq1 : (lo - ((V : Int)) + st - 1) / st * st ≤ lo - ((V : Int)) + st - 1 := Int.ediv_mul_le _ (by omega)
        have hq2 : 0 ≤ (lo - ((V : Int)) + st - 1) / st * st := Int.mul_nonneg hq0 (by omega)
        unfold bump at hr; rw [if_pos hlw] at hr
        have HR := Lib.hid hr
        clear hr
        go_enter Try.func48, Try.ntmps48
        go_wp2_with (first | (go_at_call 57; (with_reducible refine (allowed_yes _ _ (by omega) hhi).mono ?_); rintro e w' ⟨rfl, rfl⟩) | (go_at_call 47; (with_reducible refine C1.out.mono ?_); rintro e w' ⟨rfl, rfl⟩))
        go_quiet ((go_at_call 70; exact quiet_left (C2.out _)))
        go_wp2
        go_ret2
        refine ⟨?_, below_drewN ((Below.refl _ _).alloc (Nat.le_refl _) _) _⟩
        rw [HR.out]
        rfl
      · unfold bump at hr; rw [if_neg hlw] at hr
        have HR := Lib.hid hr
        clear hr
        go_enter Try.func48, Try.ntmps48
        go_wp2_with (first | (go_at_call 57; (with_reducible refine (allowed_yes _ _ (by omega) hhi).mono ?_); rintro e w' ⟨rfl, rfl⟩) | (go_at_call 47; (with_reducible refine C1.out.mono ?_); rintro e w' ⟨rfl, rfl⟩))
        go_quiet ((go_at_call 70; exact quiet_left (C2.out _)))
        go_wp2
        go_ret2
        refine ⟨?_, below_drewN ((Below.refl _ _).alloc (Nat.le_refl _) _) _⟩
        rw [HR.out]
        rfl

theorem readS_e : (readS l loose).2.2 = 0 ∨ (readS l loose).2.2 = 4 ∨ (readS l loose).2.2 = 6 := by
  unfold readS
  dsimp only
  (repeat' split) <;> simp

/-- The contract. -/
theorem begins_any (hl : l.length = n) (hn : n ≤ 60000) (hc : n ≤ c) (hb : BS w w.heap.size A l) :
    Calls Try.prog 48 #[.slice A n c, .bool loose, .agg #[.int .i64 lo, .int .i64 hi]] w fun e w' => e = .returned (tupB (beginsS l loose lo hi)) ∧ Below w.heap.size w w' := by
  by_cases h : lo < 0 ∨ hi < lo ∨ 34359738368 ≤ hi
  · exact begins_bad A n c l loose lo hi w h
  · rcases readS_e l loose with he | he | he
    · exact begins_done A n c l loose lo hi w (by omega) (by omega) (by omega) hl hn hc hb he
    · exact begins_short A n c l loose lo hi w (by omega) (by omega) (by omega) hl hc hb he
    · exact begins_fmt A n c l loose lo hi w (by omega) (by omega) (by omega) hl hn hc hb he
end
end Go.Proofs.Ytibkhjpjneoabaa.Vr

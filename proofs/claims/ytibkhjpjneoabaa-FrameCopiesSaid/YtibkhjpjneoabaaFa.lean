/- Valid, sum, tail, sealed: the framing and the checksum's bytes. -/
import Derived.Test.YtibkhjpjneoabaaSl
import Derived.Test.YtibkhjpjneoabaaCkRef
import Derived.Test.YtibkhjpjneoabaaCkRByt
namespace Go.Proofs.Ytibkhjpjneoabaa
open Go.RowKit
set_option linter.unusedVariables false
set_option linter.unusedSimpArgs false

/-- A framing. -/
def FV (k m c : Int) : Value := .agg #[.int .i64 k, .int .i64 m, .int .i64 c]
structure OkF (k m c : Int) : Prop where
  k : k = 1 ∨ k = 2
  m1 : 1 ≤ m
  m2 : m ≤ 4096
  c1 : 0 ≤ c
  c2 : c ≤ 3
/-- The first condition that falls. -/
inductive BadF (k m c : Int) : Prop where
  | k : k ≠ 1 → k ≠ 2 → BadF k m c
  | m1 : (k = 1 ∨ k = 2) → m < 1 → BadF k m c
  | m2 : (k = 1 ∨ k = 2) → 1 ≤ m → 4096 < m → BadF k m c
  | c1 : (k = 1 ∨ k = 2) → 1 ≤ m → m ≤ 4096 → c < 0 → BadF k m c
  | c2 : (k = 1 ∨ k = 2) → 1 ≤ m → m ≤ 4096 → 0 ≤ c → 3 < c → BadF k m c
theorem ok_or_bad (k m c : Int) : OkF k m c ∨ BadF k m c := by
  by_cases h1 : k = 1 ∨ k = 2
  · by_cases h2 : 1 ≤ m
    · by_cases h3 : m ≤ 4096
      · by_cases h4 : 0 ≤ c
        · by_cases h5 : c ≤ 3
          · exact .inl ⟨h1, h2, h3, h4, h5⟩
          · exact .inr (.c2 h1 h2 h3 h4 (by omega))
        · exact .inr (.c1 h1 h2 h3 (by omega))
      · exact .inr (.m2 h1 h2 (by omega))
    · exact .inr (.m1 h1 (by omega))
  · exact .inr (.k (fun h => h1 (.inl h)) (fun h => h1 (.inr h)))
theorem BadF.not {k m c : Int} (h : BadF k m c) : ¬ OkF k m c := fun ⟨h1, h2, h3, h4, h5⟩ => by
  cases h with
  | k a b => rcases h1 with h | h <;> contradiction
  | m1 a b => omega
  | m2 a b d => omega
  | c1 a b d e => omega
  | c2 a b d e f => omega

set_option maxRecDepth 100000 in
theorem valid_yes (k m c : Int) (w : World) (h : OkF k m c) : Calls Try.prog 13 #[FV k m c] w fun e w' => e = .returned (.bool true) ∧ Below w.heap.size w w' := by
  obtain ⟨h1, h2, h3, h4, h5⟩ := h
  unfold FV
  rcases h1 with rfl | rfl
  all_goals
    go_enter Try.func13, Try.ntmps13
    go_wp2_with fail
    go_ret
    exact ⟨by first | rfl | (simp; done) | (simp; omega), (Below.refl _ w).alloc (Nat.le_refl _) _⟩
set_option maxRecDepth 100000 in
theorem valid_no (k m c : Int) (w : World) (h : BadF k m c) : Calls Try.prog 13 #[FV k m c] w fun e w' => e = .returned (.bool false) ∧ Below w.heap.size w w' := by
  unfold FV
  cases h with
  | k h1 h2 =>
    have q1 : (k == 1) = false := by simpa using h1
    have q2 : (k == 2) = false := by simpa using h2
    clear h1 h2
    go_enter Try.func13, Try.ntmps13
    go_wp2_with fail
    go_ret
    exact ⟨rfl, (Below.refl _ w).alloc (Nat.le_refl _) _⟩
  | m1 h1 h2 =>
    have q1 : decide (1 ≤ m) = false := by simp; omega
    clear h2
    rcases h1 with rfl | rfl
    all_goals
      go_enter Try.func13, Try.ntmps13
      go_wp2_with fail
      go_ret
      exact ⟨rfl, (Below.refl _ w).alloc (Nat.le_refl _) _⟩
  | m2 h1 h2 h3 =>
    have q1 : decide (1 ≤ m) = true := by simp; omega
    have q2 : decide (m ≤ 4096) = false := by simp; omega
    clear h2 h3
    rcases h1 with rfl | rfl
    all_goals
      go_enter Try.func13, Try.ntmps13
      go_wp2_with fail
      go_ret
      exact ⟨rfl, (Below.refl _ w).alloc (Nat.le_refl _) _⟩
  | c1 h1 h2 h3 h4 =>
    have q1 : decide (1 ≤ m) = true := by simp; omega
    have q2 : decide (m ≤ 4096) = true := by simp; omega
    have q3 : decide (0 ≤ c) = false := by simp; omega
    clear h2 h3 h4
    rcases h1 with rfl | rfl
    all_goals
      go_enter Try.func13, Try.ntmps13
      go_wp2_with fail
      go_ret
      exact ⟨rfl, (Below.refl _ w).alloc (Nat.le_refl _) _⟩
  | c2 h1 h2 h3 h4 h5 =>
    have q1 : decide (1 ≤ m) = true := by simp; omega
    have q2 : decide (m ≤ 4096) = true := by simp; omega
    have q3 : decide (0 ≤ c) = true := by simp; omega
    have q4 : decide (c ≤ 3) = false := by simp; omega
    clear h2 h3 h4 h5
    rcases h1 with rfl | rfl
    all_goals
      go_enter Try.func13, Try.ntmps13
      go_wp2_with fail
      go_ret
      exact ⟨rfl, (Below.refl _ w).alloc (Nat.le_refl _) _⟩
set_option maxRecDepth 100000 in
theorem rvalid_yes (k m c : Int) (w : World) (h : OkF k m c) : Calls Try.prog 14 #[FV k m c] w fun e w' => e = .returned (.bool true) ∧ Below w.heap.size w w' := by
  obtain ⟨h1, h2, h3, h4, h5⟩ := h
  unfold FV
  rcases h1 with rfl | rfl
  all_goals
    go_enter Try.func14, Try.ntmps14
    go_wp2_with fail
    go_ret
    exact ⟨by first | rfl | (simp; done) | (simp; omega), (Below.refl _ w).alloc (Nat.le_refl _) _⟩
set_option maxRecDepth 100000 in
theorem rvalid_no (k m c : Int) (w : World) (h : BadF k m c) : Calls Try.prog 14 #[FV k m c] w fun e w' => e = .returned (.bool false) ∧ Below w.heap.size w w' := by
  unfold FV
  cases h with
  | k h1 h2 =>
    have q1 : (k == 1) = false := by simpa using h1
    have q2 : (k == 2) = false := by simpa using h2
    clear h1 h2
    go_enter Try.func14, Try.ntmps14
    go_wp2_with fail
    go_ret
    exact ⟨rfl, (Below.refl _ w).alloc (Nat.le_refl _) _⟩
  | m1 h1 h2 =>
    have q1 : decide (1 ≤ m) = false := by simp; omega
    clear h2
    rcases h1 with rfl | rfl
    all_goals
      go_enter Try.func14, Try.ntmps14
      go_wp2_with fail
      go_ret
      exact ⟨rfl, (Below.refl _ w).alloc (Nat.le_refl _) _⟩
  | m2 h1 h2 h3 =>
    have q1 : decide (1 ≤ m) = true := by simp; omega
    have q2 : decide (m ≤ 4096) = false := by simp; omega
    clear h2 h3
    rcases h1 with rfl | rfl
    all_goals
      go_enter Try.func14, Try.ntmps14
      go_wp2_with fail
      go_ret
      exact ⟨rfl, (Below.refl _ w).alloc (Nat.le_refl _) _⟩
  | c1 h1 h2 h3 h4 =>
    have q1 : decide (1 ≤ m) = true := by simp; omega
    have q2 : decide (m ≤ 4096) = true := by simp; omega
    have q3 : decide (0 ≤ c) = false := by simp; omega
    clear h2 h3 h4
    rcases h1 with rfl | rfl
    all_goals
      go_enter Try.func14, Try.ntmps14
      go_wp2_with fail
      go_ret
      exact ⟨rfl, (Below.refl _ w).alloc (Nat.le_refl _) _⟩
  | c2 h1 h2 h3 h4 h5 =>
    have q1 : decide (1 ≤ m) = true := by simp; omega
    have q2 : decide (m ≤ 4096) = true := by simp; omega
    have q3 : decide (0 ≤ c) = true := by simp; omega
    have q4 : decide (c ≤ 3) = false := by simp; omega
    clear h2 h3 h4 h5
    rcases h1 with rfl | rfl
    all_goals
      go_enter Try.func14, Try.ntmps14
      go_wp2_with fail
      go_ret
      exact ⟨rfl, (Below.refl _ w).alloc (Nat.le_refl _) _⟩

/-- The bytes of a packet's checksum. -/
def sumB (c : Int) (l : List UInt8) : List UInt8 := if c = 0 then [] else Ck.bytS c (Ck.chkS c l)
def tailN (c : Int) : Nat := if c = 0 then 0 else if c = 3 then 4 else 2
theorem sumB_len {c : Int} (h0 : 0 ≤ c) (h3 : c ≤ 3) (l : List UInt8) : (sumB c l).length = tailN c := by
  unfold sumB tailN
  split
  · rfl
  · unfold Ck.bytS
    split <;> rfl
theorem tailN_le (c : Int) : tailN c ≤ 4 := by unfold tailN; split; omega; split <;> omega
theorem chk_range {k : Int} (h1 : 1 ≤ k) (h3 : k ≤ 3) (l : List UInt8) : 0 ≤ Ck.chkS k l ∧ Ck.chkS k l < (if k = 3 then 4294967296 else 65536) := by
  unfold Ck.chkS
  rcases (show k = 1 ∨ k = 2 ∨ k = 3 by omega) with rfl | rfl | rfl
  · have := Ck.wrdS_range l 0 0 (by omega) (by omega)
    simp; omega
  · have := Ck.divS_lt l 65535 (by omega)
    simp; omega
  · have := Ck.adlS_range l 1 0 (by omega) (by omega) (by omega) (by omega)
    simp; omega
theorem RB.bs {w : World} {A : Option Addr} {n c : Nat} {l : List UInt8} (h : RB w A n c l) : BS w w.heap.size A l := fun h0 => by
  have h0n : 0 < n := by rw [← h.len]; exact h0
  cases A with
  | none => have := (h.h.2.1 rfl).1; omega
  | some a =>
    have h1 := h.h.2.2 a rfl 0 (u8 l[0]) (by simp [List.getElem?_eq_getElem h0])
    have hs : a.spot = none := by have := World.cell?_spot h1; simpa [Addr.add] using this
    have hlt := h.lt h0n rfl
    obtain ⟨b, o, sp⟩ := a
    simp at hs
    subst hs
    refine ⟨b, o, rfl, hlt, fun i hi => ?_⟩
    have h2 := h.h.2.2 _ rfl i (u8 l[i]) (by simp [List.getElem?_eq_getElem hi])
    rw [Addr.add_lit] at h2
    exact h2
/-- Some fresh bytes. -/
def Bytes1 (w : World) (n : Nat) (l : List UInt8) (e : Ending) (w' : World) : Prop := ∃ A c, e = .returned (.slice A n c) ∧ w'.ownsRow w.heap.size 5 1 (.slice A n c) n (l.map u8) ∧ Below w.heap.size w w'

theorem bytes_of_sum (c v : Int) (h1 : 1 ≤ c) (h3 : c ≤ 3) (h0 : 0 ≤ v) (hv : v < (if c = 3 then 4294967296 else 65536)) (w : World) : Calls Try.prog 42 #[.int .i64 c, .int .i64 v] w fun e w' => ∃ A cap, e = .returned (.tuple #[.slice A (tailN c) cap, .int .i64 0]) ∧ w'.ownsRow w.heap.size 5 1 (.slice A (tailN c) cap) (tailN c) ((Ck.bytS c v).map u8) ∧ Below w.heap.size w w' := by
  have key : ∀ e w', Ck.Byted c v w e w' → ∃ A cap, e = .returned (.tuple #[.slice A (tailN c) cap, .int .i64 0]) ∧ w'.ownsRow w.heap.size 5 1 (.slice A (tailN c) cap) (tailN c) ((Ck.bytS c v).map u8) ∧ Below w.heap.size w w' := by
    rintro e w' ⟨val, rfl, ho, hb⟩
    have hl : Ck.lenS c = tailN c := by unfold Ck.lenS tailN; rw [if_neg (by omega : ¬ c = 0)]
    rw [hl] at ho
    obtain ⟨A, cap, rfl, -⟩ := own_form ho
    exact ⟨A, cap, rfl, ho, hb⟩
  rcases (show c = 1 ∨ c = 2 ∨ c = 3 by omega) with rfl | rfl | rfl
  · exact (Ck.byt_1 v w h0 (by simpa using hv)).mono key
  · exact (Ck.byt_2 v w h0 (by simpa using hv)).mono key
  · exact (Ck.byt_3 v w h0 (by simpa using hv)).mono key
theorem rbytes_of_sum (c v : Int) (h1 : 1 ≤ c) (h3 : c ≤ 3) (h0 : 0 ≤ v) (hv : v < (if c = 3 then 4294967296 else 65536)) (w : World) : Calls Try.prog 44 #[.int .i64 c, .int .i64 v] w fun e w' => ∃ A cap, e = .returned (.tuple #[.slice A (tailN c) cap, .int .i64 0]) ∧ w'.ownsRow w.heap.size 5 1 (.slice A (tailN c) cap) (tailN c) ((Ck.bytS c v).map u8) ∧ Below w.heap.size w w' := by
  have key : ∀ e w', Ck.Byted c v w e w' → ∃ A cap, e = .returned (.tuple #[.slice A (tailN c) cap, .int .i64 0]) ∧ w'.ownsRow w.heap.size 5 1 (.slice A (tailN c) cap) (tailN c) ((Ck.bytS c v).map u8) ∧ Below w.heap.size w w' := by
    rintro e w' ⟨val, rfl, ho, hb⟩
    have hl : Ck.lenS c = tailN c := by unfold Ck.lenS tailN; rw [if_neg (by omega : ¬ c = 0)]
    rw [hl] at ho
    obtain ⟨A, cap, rfl, -⟩ := own_form ho
    exact ⟨A, cap, rfl, ho, hb⟩
  rcases (show c = 1 ∨ c = 2 ∨ c = 3 by omega) with rfl | rfl | rfl
  · exact (Ck.rbyt_2 1 v (.inl rfl) w h0 (by simpa using hv)).mono key
  · exact (Ck.rbyt_2 2 v (.inr rfl) w h0 (by simpa using hv)).mono key
  · exact (Ck.rbyt_4 3 v rfl w h0 (by simpa using hv)).mono key

set_option maxRecDepth 100000 in
theorem sum_any (c : Int) (h0 : 0 ≤ c) (h3 : c ≤ 3) (A : Option Addr) (n cap : Nat) (l : List UInt8) (w : World) (hr : RB w A n cap l) (hn : n ≤ 60000) :
    Calls Try.prog 29 #[.int .i64 c, .slice A n cap] w (Bytes1 w (tailN c) (sumB c l)) := by
  by_cases hc : c = 0
  · subst hc
    go_enter Try.func29, Try.ntmps29
    go_wp2_with fail
    go_ret
    exact ⟨none, 0, rfl, World.ownsRow_nil _ _ 5 1, Below.refl _ _⟩
  · have C41 := Lib.hid (Ck.ofx_ok c ⟨by omega, h3⟩ A n cap l w hr.len hn hr.bs)
    have hrg := chk_range (k := c) (by omega) h3 l
    have C42 := Lib.hid (fun W => bytes_of_sum c (Ck.chkS c l) (by omega) h3 hrg.1 hrg.2 W)
    have e1 : sumB c l = Ck.bytS c (Ck.chkS c l) := by unfold sumB; rw [if_neg hc]
    have HE := Lib.hid e1
    have q : (c == 0) = false := by simpa using hc
    generalize Ck.chkS c l = v at *
    clear hc hr hn hrg e1 h0 h3
    go_enter Try.func29, Try.ntmps29
    go_wp2_with (first
      | (go_at_call 41; (with_reducible refine C41.out.mono ?_); rintro e w1 ⟨rfl, b1⟩; have B1 := Lib.hid b1; clear b1)
      | (go_at_call 42; (with_reducible refine (C42.out _).mono ?_); rintro e w2 ⟨A2, c2, rfl, ho, b2⟩; have HO := Lib.hid ho; have B2 := Lib.hid (B1.out.trans (b2.mono B1.out.size)); clear b2 ho))
    go_ret
    exact ⟨A2, c2, rfl, by rw [HE.out]; exact own_base HO.out B1.out.size, B2.out⟩
set_option maxRecDepth 100000 in
theorem tail_any (k m c : Int) (h0 : 0 ≤ c) (h3 : c ≤ 3) (w : World) : Calls Try.prog 54 #[FV k m c] w fun e w' => e = .returned (.int .i64 (tailN c)) ∧ Below w.heap.size w w' := by
  have C65 := Lib.hid (fun W => Ck.rbits_any c W)
  unfold FV
  rcases (show c = 0 ∨ c = 1 ∨ c = 2 ∨ c = 3 by omega) with rfl | rfl | rfl | rfl
  all_goals
    go_enter Try.func54, Try.ntmps54
    go_wp2_with (go_at_call 65; (with_reducible refine (C65.out _).mono ?_); rintro e w1 ⟨rfl, rfl⟩; simp only [Ck.bitsS, Ck.noS])
    go_ret
    exact ⟨rfl, (Below.refl _ w).alloc (Nat.le_refl _) _⟩
end Go.Proofs.Ytibkhjpjneoabaa

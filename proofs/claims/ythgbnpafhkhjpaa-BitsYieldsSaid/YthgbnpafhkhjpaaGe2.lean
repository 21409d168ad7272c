/- The contracts of (*Reader).Get and Skip. -/
import Derived.Test.YthgbnpafhkhjpaaGet
namespace Go.Proofs.Ythgbnpafhkhjpaa
open Go.RowKit
set_option linter.unusedVariables false
set_option linter.unusedSimpArgs false

/-- A reader's state passes over what is done above it. -/
theorem RS.low {w w' : World} {B g b p : Nat} {v : Value} {l : List UInt8} (h : RS w B g v l p) (hb : Below b w w') (hg : g < b) (hv : ∀ k, v.ownBlock = some k → k < b) : RS w' B g v l p :=
  ⟨h.blk.below hb hg, own_keeps h.own fun k hk => hb.block k (hv k hk), Nat.le_trans h.base hb.size, h.place, h.small⟩

def getC (n : Int) : List (Bool × Int) := [(decide (1 ≤ n) && decide (n ≤ 32), 2)]
theorem get_some (B g : Nat) (v : Value) (l : List UInt8) (p : Nat) (n : Int) (w : World) (hr : RS w B g v l p) :
    Calls Try.prog 16 #[.pointer (some ⟨g, 0, none⟩), .int .i64 n] w fun e w' => e = .returned (.tuple #[.int .i64 (bitsV (cut l p (rN (rE l p (getC n) n) n))), .int .i64 (rE l p (getC n) n)]) ∧ RS w' B g v l (p + rN (rE l p (getC n) n) n) ∧ Two g (.slice none 0 0) w w' := by
  have hn32 : rN (rE l p (getC n) n) n ≤ 32 := by
    unfold rN
    split
    · rename_i h
      obtain ⟨h1, _⟩ := firstE_front ([(true, 1)] ++ getC n) _ (by intro c hc; simp [getC] at hc; rcases hc with rfl | rfl <;> simp) h
      have : (decide (1 ≤ n) && decide (n ≤ 32)) = true := by
        cases hd : (decide (1 ≤ n) && decide (n ≤ 32))
        · simp [getC, hd, firstE] at h1
        · rfl
      simp at this
      omega
    · omega
  have hg := hr.blk.lt
  have h := get_walk (some ⟨g, 0, none⟩) n (rE l p (getC n) n) (cut l p (rN (rE l p (getC n) n) n)) (fun W => RS W B g v l (p + rN (rE l p (getC n) n) n) ∧ Two g (.slice none 0 0) w W) w (by rw [cut_length]; exact hn32) fun b W hb hc => by
    refine (pass_rs B g v l p n b 1 (getC n) W (hr.below hb (Nat.le_refl _)) hc rfl (by omega) (by omega) (by intro c hc; simp [getC] at hc; subst hc; simp) ?_).mono ?_
    · intro h0
      cases hd : (decide (1 ≤ n) && decide (n ≤ 32))
      · simp [getC, hd, firstE] at h0
      · simp at hd; omega
    · rintro e w' ⟨v', rfl, k1, k2, k3⟩
      refine ⟨v', by rw [cut_length], by rw [cut_length]; exact k1, ⟨k2, Two.of_below hb k3⟩, k3.size, fun k t cs hk hk2 => (k3.block k hk.lt (by omega) (by simp [Value.ownBlock])).trans hk⟩
  refine h.mono ?_
  rintro e w' ⟨rfl, w1, ⟨k1, k2⟩, k3, k4⟩
  exact ⟨rfl, k1.low k4 hg fun k hk => own_lt hr.own k hk, k2.below k4⟩

theorem get_none (p : Option Addr) (n : Int) (w : World) (h49 : ∀ W, Below w.heap.size w W → Calls Try.prog 49 #[.pointer p] W fun e w' => e = .returned (.bool false) ∧ W = w') :
    Calls Try.prog 16 #[.pointer p, .int .i64 n] w fun e w' => e = .returned (.tuple #[.int .i64 0, .int .i64 1]) ∧ Below w.heap.size w w' := by
  have h := get_walk p n 1 [] (fun W => Below w.heap.size w W) w (by simp) fun b W hb hc => by
    refine (pass_none p n b 1 (getC n) W hc rfl (by omega) (by omega) (fun W2 h2 => h49 W2 (hb.trans (h2.mono hb.size)))).mono ?_
    rintro e w' ⟨rfl, h⟩
    exact ⟨_, rfl, World.ownsRow_nil _ _ 5 1, hb.trans (h.mono hb.size), h.size, fun k t cs hk _ => hk.below h hk.lt⟩
  refine h.mono ?_
  rintro e w' ⟨rfl, w1, k1, k2, k3⟩
  exact ⟨rfl, k1.trans k3⟩

set_option maxRecDepth 100000 in
set_option maxHeartbeats 1000000 in
theorem skip_walk (p : Option Addr) (n E : Int) (P : World → Prop) (w : World)
    (h39 : ∀ b W, Below w.heap.size w W → CS W b 0 [(decide (0 ≤ n), 2)] → Calls Try.prog 39 #[.pointer p, .int .i64 n, .slice (some ⟨b, 0, none⟩) 1 1] W fun e w' => ∃ v' c, e = .returned (.tuple #[.agg #[v', .int .i64 c], .int .i64 E]) ∧ (∃ A n c, v' = .slice A n c) ∧ P w' ∧ W.heap.size ≤ w'.heap.size) :
    Calls Try.prog 15 #[.pointer p, .int .i64 n] w fun e w' => e = .returned (.int .i64 E) ∧ ∃ w1, P w1 ∧ w.heap.size ≤ w1.heap.size ∧ Below w.heap.size w1 w' := by
  have hb1 : Below w.heap.size w (w.alloc (.cells #[.bool (decide (0 ≤ n)), .int .i64 2] 72)) := (Below.refl _ w).alloc (Nat.le_refl _) _
  have C39 := Lib.hid (h39 w.heap.size _ hb1 (cs_at1 rfl))
  have HS := Lib.hid hb1.size
  clear h39 hb1
  go_enter Try.func15, Try.ntmps15
  go_wp2_with (first
    | (go_at_call 39; (with_reducible refine C39.out.mono ?_); rintro e w1 ⟨v1, c1, rfl, ⟨A1, n1, q1, rfl⟩, hP, hsz1⟩; have HP := Lib.hid hP; have HSZ := Lib.hid hsz1; clear hP hsz1))
  go_ret
  exact ⟨rfl, w1, HP.out, Nat.le_trans HS.out HSZ.out, (Below.refl _ w1).alloc (Nat.le_trans HS.out HSZ.out) _⟩

def skipC (n : Int) : List (Bool × Int) := [(decide (0 ≤ n), 2)]
theorem skip_some (B g : Nat) (v : Value) (l : List UInt8) (p : Nat) (n : Int) (w : World) (hr : RS w B g v l p) :
    Calls Try.prog 15 #[.pointer (some ⟨g, 0, none⟩), .int .i64 n] w fun e w' => e = .returned (.int .i64 (rE l p (skipC n) n)) ∧ RS w' B g v l (p + rN (rE l p (skipC n) n) n) ∧ Two g (.slice none 0 0) w w' := by
  have hg := hr.blk.lt
  have h := skip_walk (some ⟨g, 0, none⟩) n (rE l p (skipC n) n) (fun W => RS W B g v l (p + rN (rE l p (skipC n) n) n) ∧ Two g (.slice none 0 0) w W) w fun b W hb hc => by
    refine (pass_rs B g v l p n b 1 (skipC n) W (hr.below hb (Nat.le_refl _)) hc rfl (by omega) (by omega) (by intro c hc; simp [skipC] at hc; subst hc; simp) ?_).mono ?_
    · intro h0
      cases hd : decide (0 ≤ n)
      · simp [skipC, hd, firstE] at h0
      · simpa using hd
    · rintro e w' ⟨v', rfl, k1, k2, k3⟩
      obtain ⟨A, q, rfl, -⟩ := own_form k1
      exact ⟨_, _, rfl, ⟨_, _, _, rfl⟩, ⟨k2, Two.of_below hb k3⟩, k3.size⟩
  refine h.mono ?_
  rintro e w' ⟨rfl, w1, ⟨k1, k2⟩, k3, k4⟩
  exact ⟨rfl, k1.low k4 hg fun k hk => own_lt hr.own k hk, k2.below k4⟩
theorem skip_none (p : Option Addr) (n : Int) (w : World) (h49 : ∀ W, Below w.heap.size w W → Calls Try.prog 49 #[.pointer p] W fun e w' => e = .returned (.bool false) ∧ W = w') :
    Calls Try.prog 15 #[.pointer p, .int .i64 n] w fun e w' => e = .returned (.int .i64 1) ∧ Below w.heap.size w w' := by
  have h := skip_walk p n 1 (fun W => Below w.heap.size w W) w fun b W hb hc => by
    refine (pass_none p n b 1 (skipC n) W hc rfl (by omega) (by omega) (fun W2 h2 => h49 W2 (hb.trans (h2.mono hb.size)))).mono ?_
    rintro e w' ⟨rfl, h⟩
    exact ⟨_, _, rfl, ⟨_, _, _, rfl⟩, hb.trans (h.mono hb.size), h.size⟩
  refine h.mono ?_
  rintro e w' ⟨rfl, w1, k1, k2, k3⟩
  exact ⟨rfl, k1.trans k3⟩
end Go.Proofs.Ythgbnpafhkhjpaa

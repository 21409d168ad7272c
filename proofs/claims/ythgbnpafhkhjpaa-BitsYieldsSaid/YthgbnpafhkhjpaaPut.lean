/- The contract of (*Writer).Put. -/
import Derived.Test.YthgbnpafhkhjpaaWr2
import Derived.Test.YthgbnpafhkhjpaaSm
namespace Go.Proofs.Ythgbnpafhkhjpaa
open Go.RowKit
set_option linter.unusedVariables false
set_option linter.unusedSimpArgs false

set_option maxRecDepth 100000 in
theorem of_any (v n : Int) (w : World) : Calls Try.prog 35 #[.int .i64 v, .int .i64 n] w fun e w' => e = .returned (.func (.func 64) #[] #[.pointer (some ⟨w.heap.size + 1, 0, none⟩), .pointer (some ⟨w.heap.size, 0, none⟩)]) ∧ (w.alloc (.cells #[.int .i64 v] 3)).alloc (.cells #[.int .i64 n] 3) = w' := by
  go_enter Try.func35, Try.ntmps35
  go_wp2_with fail
  go_ret
  exact ⟨rfl, rfl⟩

/-- Whether a number may be put. -/
def putOk (v n : Int) : Bool := (decide (1 ≤ n) && decide (n ≤ 32)) && (decide (0 ≤ v) && decide (v ≤ 2 ^ n.toNat - 1))

theorem cs_new (W : World) (cs : List (Bool × Int)) : CS (W.alloc (.cells (flatC cs).toArray 72)) W.heap.size 0 cs := fun i hi => by
  obtain ⟨g1, g2⟩ := flatC_get cs i hi
  rw [(Blk.new W 72 _).cell, (Blk.new W 72 _).cell, Nat.zero_add]
  exact ⟨by simpa using g1, by simpa using g2⟩

set_option maxRecDepth 100000 in
set_option maxHeartbeats 1000000 in
theorem put_walk (p : Option Addr) (v n : Int) (there : Bool) (Q : Int → World → Prop) (w : World)
    (h36 : ∀ W, Below w.heap.size w W → Calls Try.prog 36 #[.pointer p] W fun e w' => e = .returned (.bool there) ∧ W = w')
    (h34 : ∀ (b : Nat) (W : World), Below w.heap.size w W → CS W b 0 [(there, 1), (putOk v n, 2)] → Blk W w.heap.size 3 #[.int .i64 v] → Blk W (w.heap.size + 1) 3 #[.int .i64 n] →
      Calls Try.prog 34 #[.pointer p, .func (.func 64) #[] #[.pointer (some ⟨w.heap.size + 1, 0, none⟩), .pointer (some ⟨w.heap.size, 0, none⟩)], .int .i64 n, .slice (some ⟨b, 0, none⟩) 2 2] W fun e w' => ∃ x, e = .returned (.int .i64 x) ∧ Q x w') :
    Calls Try.prog 11 #[.pointer p, .int .i64 v, .int .i64 n] w fun e w' => ∃ x, e = .returned (.int .i64 x) ∧ Q x w' := by
  have hb1 : Below w.heap.size w (w.alloc (.cells #[.int .i64 v] 3)) := (Below.refl _ w).alloc (Nat.le_refl _) _
  have hb2 : Below w.heap.size w ((w.alloc (.cells #[.int .i64 v] 3)).alloc (.cells #[.int .i64 n] 3)) := hb1.alloc (by simp) _
  have C36 := Lib.hid (h36 _ hb2)
  have hb3 : Below w.heap.size w (((w.alloc (.cells #[.int .i64 v] 3)).alloc (.cells #[.int .i64 n] 3)).alloc (.cells #[.bool there, .int .i64 1, .bool (putOk v n), .int .i64 2] 72)) := hb2.alloc (by simp; omega) _
  have C34 := Lib.hid (h34 (w.heap.size + 1 + 1) _ hb3 (by have := cs_new ((w.alloc (.cells #[.int .i64 v] 3)).alloc (.cells #[.int .i64 n] 3)) [(there, 1), (putOk v n, 2)]; rw [World.size_alloc, World.size_alloc] at this; exact this) (((Blk.new w 3 #[.int .i64 v]).alloc _).alloc _) (by have := (Blk.new (w.alloc (.cells #[.int .i64 v] 3)) 3 #[.int .i64 n]).alloc (.cells #[.bool there, .int .i64 1, .bool (putOk v n), .int .i64 2] 72); simpa using this))
  clear h36 h34 hb1 hb2 hb3
  cases ha : (decide (1 ≤ n) && decide (n ≤ 32))
  · go_enter Try.func11, Try.ntmps11
    have hp : putOk v n = false := by unfold putOk; rw [ha]; rfl
    rw [hp] at C34
    go_wp2_with (first
      | (go_at_call 35; (with_reducible refine (of_any _ _ _).mono ?_); rintro e w1 ⟨rfl, rfl⟩)
      | (go_at_call 36; (with_reducible refine C36.out.mono ?_); rintro e w1 ⟨rfl, rfl⟩)
      | (go_at_call 37; (with_reducible refine (in_any _ _ _ _).mono ?_); rintro e w1 ⟨rfl, rfl⟩)
      | (go_at_call 34; (with_reducible refine C34.out.mono ?_); rintro e w1 ⟨x, rfl, hQ⟩))
    go_ret
    exact ⟨x, rfl, hQ⟩
  · have hn1 : 1 ≤ n ∧ n ≤ 32 := by simpa using ha
    obtain ⟨k, rfl⟩ : ∃ k : Nat, n = k := ⟨n.toNat, by omega⟩
    have hn0 : (0 : Int) ≤ k := by omega
    have hn2 : (k : Int) < 64 := by omega
    have hk : (2 : Nat) ^ k ≤ 2 ^ 32 := Nat.pow_le_pow_right (by omega) (by omega)
    have hP : (2 : Int) ^ k = ((2 ^ k : Nat) : Int) := by simp
    have hk2 : (2 : Int) ^ k ≤ 4294967296 := by rw [hP]; omega
    have hk3 : (1 : Int) ≤ 2 ^ k := by rw [hP]; have := Nat.one_le_two_pow (n := k); omega
    have hw : wrap64 (wrap64 (2 ^ (if 0 < k then (k : Int) else 0).toNat) - 1) = 2 ^ k - 1 := by
      rw [if_pos (by omega), Int.toNat_natCast]
      simp only [wrap64]
      omega
    have hp : putOk v k = (decide (0 ≤ v) && decide (v ≤ wrap64 (wrap64 (2 ^ (if 0 < k then (k : Int) else 0).toNat) - 1))) := by unfold putOk; rw [ha, hw]; rfl
    rw [hp] at C34
    clear hp hk hP hn1 hw
    go_enter Try.func11, Try.ntmps11
    go_wp2_with (first
      | (go_at_call 35; (with_reducible refine (of_any _ _ _).mono ?_); rintro e w1 ⟨rfl, rfl⟩)
      | (go_at_call 36; (with_reducible refine C36.out.mono ?_); rintro e w1 ⟨rfl, rfl⟩)
      | (go_at_call 37; (with_reducible refine (in_any _ _ _ _).mono ?_); rintro e w1 ⟨rfl, rfl⟩)
      | (go_at_call 34; (with_reducible refine C34.out.mono ?_); rintro e w1 ⟨x, rfl, hQ⟩))
    all_goals
      go_ret
      exact ⟨_, rfl, hQ⟩

/-- The contract of Put at a writer that is there. -/
def putE (bs : List Bool) (v n : Int) : Int := firstE [(true, 1), (putOk v n, 2), (decide (n ≤ 8388608 - (bs.length : Int)), 7)]

theorem nil_below {w : World} {g : Nat} {v : Value} {x : Int} {t : Bool} (hg : Blk w g 63 #[v, .int .i64 x, .bool t]) : ∀ W, Below w.heap.size w W → Calls Try.prog 36 #[.pointer (some ⟨g, 0, none⟩)] W fun e w' => e = .returned (.bool t) ∧ W = w' :=
  fun W hb => wis_some g v x t W (hg.below hb hg.lt)
theorem len_below {w : World} {g : Nat} {v : Value} {x : Int} (hg : Blk w g 63 #[v, .int .i64 x, .bool true]) : ∀ W, Below w.heap.size w W → Calls Try.prog 13 #[.pointer (some ⟨g, 0, none⟩)] W fun e w' => e = .returned (.int .i64 x) ∧ W = w' :=
  fun W hb => wlen_some g v x W (hg.below hb hg.lt)

theorem put_err (B g : Nat) (val : Value) (bs : List Bool) (v n : Int) (w : World) (hw : WS w B g 63 [.bool true] val bs) (hm : bs.length ≤ 8388608) (hE : putE bs v n ≠ 0) :
    Calls Try.prog 11 #[.pointer (some ⟨g, 0, none⟩), .int .i64 v, .int .i64 n] w fun e w' => ∃ x, e = .returned (.int .i64 x) ∧ (x = putE bs v n ∧ Below w.heap.size w w') := by
  refine put_walk _ v n true (fun x w' => x = putE bs v n ∧ Below w.heap.size w w') w (nil_below hw.blk) fun b W hb hc _ _ => ?_
  refine (write_err (some ⟨g, 0, none⟩) _ n bs.length (putE bs v n) b 2 _ W hc rfl (by omega) (by omega) (fun W2 hb2 => len_below hw.blk W2 (hb.trans (hb2.mono hb.size))) (by omega) (by omega) rfl (by simpa using hE)).mono ?_
  rintro e w' ⟨rfl, h⟩
  exact ⟨_, rfl, rfl, hb.trans (h.mono hb.size)⟩

theorem put_none (p : Option Addr) (v n : Int) (w : World) (h36 : ∀ W, Below w.heap.size w W → Calls Try.prog 36 #[.pointer p] W fun e w' => e = .returned (.bool false) ∧ W = w') :
    Calls Try.prog 11 #[.pointer p, .int .i64 v, .int .i64 n] w fun e w' => ∃ x, e = .returned (.int .i64 x) ∧ (x = 1 ∧ Below w.heap.size w w') := by
  refine put_walk _ v n false (fun x w' => x = 1 ∧ Below w.heap.size w w') w h36 fun b W hb hc _ _ => ?_
  refine (write_err p _ n 0 1 b 2 _ W hc rfl (by omega) (by omega) (fun W2 hb2 => wlen_none _ W2 (h36 W2 (hb.trans (hb2.mono hb.size)))) (by omega) (by omega) rfl rfl).mono ?_
  rintro e w' ⟨rfl, h⟩
  exact ⟨_, rfl, rfl, hb.trans (h.mono hb.size)⟩

theorem put_some (B g : Nat) (val : Value) (bs : List Bool) (v n : Nat) (w : World) (hw : WS w B g 63 [.bool true] val bs) (hE : putE bs v n = 0) :
    Calls Try.prog 11 #[.pointer (some ⟨g, 0, none⟩), .int .i64 v, .int .i64 n] w fun e w' => ∃ x, e = .returned (.int .i64 x) ∧ (x = 0 ∧ ∃ v', WS w' B g 63 [.bool true] v' (bs ++ numBits v n) ∧ Two g val w w' ∧ Hat val v' w) := by
  have h1 : putOk v n = true := by
    cases h : putOk v n
    · simp [putE, firstE, h] at hE
    · rfl
  have h2 : decide ((n : Int) ≤ 8388608 - (bs.length : Int)) = true := by
    cases h : decide ((n : Int) ≤ 8388608 - (bs.length : Int))
    · rw [putE, h1, h] at hE; simp [firstE] at hE
    · rfl
  have h3 : n ≤ 32 ∧ v < 2 ^ n := by
    simp [putOk] at h1
    refine ⟨by omega, ?_⟩
    have hP : (2 : Int) ^ n = ((2 ^ n : Nat) : Int) := by simp
    rw [hP] at h1
    omega
  have h4 : v < 4294967296 := Nat.lt_of_lt_of_le h3.2 (Nat.pow_le_pow_right (n := 2) (by omega) h3.1)
  refine put_walk _ v n true _ w (nil_below hw.blk) fun b W hb hc hv hn => ?_
  have hs := hw.blk.lt
  refine (write_ok B g val bs (nbit v n) n 64 _ b 2 [(true, 1), (putOk v n, 2)] W hc rfl (by omega) (by omega) (hw.below hb (Nat.le_refl _)) (by rw [h1]; rfl) (by simp at h2; omega) (enters_of Try.func64 (by kernel_rfl) rfl) (fun W2 hb2 => ?_)).mono ?_
  · refine (of_iter 99 W2 (w.heap.size + 1) w.heap.size v n h4 h3.1 (hn.below hb2 hn.lt) (hv.below hb2 hv.lt)).weaken fun vs X Y hk => hk.low _ hv.lt (by omega) (own_not_blk (hw.below hb (Nat.le_refl _)).own hv (by decide))
  · rintro e w' ⟨rfl, v', k1, k2, k3⟩
    refine ⟨_, rfl, rfl, v', k1, Two.of_below hb k2, ?_⟩
    rcases k3 with k3 | k3
    · exact .inl k3
    · exact .inr fun k hk => Nat.le_trans hb.size (k3 k hk)
end Go.Proofs.Ythgbnpafhkhjpaa

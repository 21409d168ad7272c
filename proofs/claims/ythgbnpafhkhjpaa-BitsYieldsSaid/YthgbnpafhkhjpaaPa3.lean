/- Pad at a reader's state and without one; NewWriter, Out; the copies of nothing. -/
import Derived.Test.YthgbnpafhkhjpaaPa2
import Derived.Test.YthgbnpafhkhjpaaLi3
namespace Go.Proofs.Ythgbnpafhkhjpaa
open Go.RowKit
set_option linter.unusedVariables false
set_option linter.unusedSimpArgs false

def padE (l : List UInt8) (p : Nat) (n : Int) : Int := if rE l p (padC n) (alignN p n) = 0 then (if true ∈ cut l p (alignN p n) then 6 else 0) else rE l p (padC n) (alignN p n)
def padN (l : List UInt8) (p : Nat) (n : Int) : Nat := if padE l p n = 0 then alignN p n else 0

theorem alignN_le (p : Nat) (n : Int) : alignN p n ≤ 4096 := by
  unfold alignN
  split
  · rename_i h
    simp [alignOk] at h
    have := (upTo_le p n.toNat (by omega)).1
    omega
  · omega

theorem pad_some (B g : Nat) (v : Value) (l : List UInt8) (p : Nat) (n : Int) (w : World) (hr : RS w B g v l p) :
    Calls Try.prog 22 #[.pointer (some ⟨g, 0, none⟩), .int .i64 n] w fun e w' => e = .returned (.int .i64 (padE l p n)) ∧ RS w' B g v l (p + padN l p n) ∧ Two g (.slice none 0 0) w w' := by
  have hg := hr.blk.lt
  have hsm := hr.small
  have hpl := hr.place
  have hal := alignN_le p n
  have h23 : ∀ W, Below w.heap.size w W → Calls Try.prog 23 #[.pointer (some ⟨g, 0, none⟩)] W fun e w' => e = .returned (.int .i64 p) ∧ W = w' := fun W hb => rplace_some g _ _ _ W (hr.below hb (Nat.le_refl _)).blk
  have h46 : ∀ b W, Below w.heap.size w W → CS W b 0 [(alignOk n, 2)] → Calls Try.prog 46 #[.pointer (some ⟨g, 0, none⟩), .int .i64 (alignN p n : Int), .slice (some ⟨b, 0, none⟩) 1 1] W fun e w' => ∃ v', e = .returned (.tuple #[.agg #[v', .int .i64 (rN (rE l p (padC n) (alignN p n)) (alignN p n))], .int .i64 (rE l p (padC n) (alignN p n))]) ∧ w'.ownsRow W.heap.size 5 1 v' (((cut l p (rN (rE l p (padC n) (alignN p n)) (alignN p n))).length + 7) / 8) ((pack (cut l p (rN (rE l p (padC n) (alignN p n)) (alignN p n)))).map u8) ∧ Below W.heap.size W w' := fun b W hb hc => by
    rw [cut_length]
    exact read_rs B g v l p _ b 1 (padC n) W (hr.below hb (Nat.le_refl _)) hc rfl (by omega) (by omega) (by intro c hc; simp [padC] at hc; subst hc; simp) (fun _ => by omega)
  have hNl : (cut l p (rN (rE l p (padC n) (alignN p n)) (alignN p n))).length ≤ 10000 := by
    rw [cut_length]
    unfold rN
    split <;> omega
  by_cases hE : rE l p (padC n) (alignN p n) = 0
  · obtain ⟨f1, _⟩ := firstE_front ([(true, 1)] ++ padC n) _ (by intro c hc; simp [padC] at hc; rcases hc with rfl | rfl <;> simp) hE
    have ha : alignOk n = true := by
      cases h : alignOk n
      · simp [padC, h, firstE] at f1
      · rfl
    have hN : rN (rE l p (padC n) (alignN p n)) (alignN p n) = alignN p n := by unfold rN; rw [if_pos hE]; rfl
    rw [hN] at h46 hNl
    by_cases hin : true ∈ cut l p (alignN p n)
    · have h6 : padE l p n = 6 := by unfold padE; rw [if_pos hE, if_pos hin]
      have hN0 : padN l p n = 0 := by unfold padN; rw [h6]; rfl
      rw [h6, hN0]
      refine (pad_six (some ⟨g, 0, none⟩) n p _ _ _ w (by omega) hNl ha hE hin h23 h46).mono ?_
      rintro e w' ⟨rfl, hb⟩
      exact ⟨rfl, hr.below hb (Nat.le_refl _), (Two.refl _ _ _).below hb⟩
    · have h6 : padE l p n = 0 := by unfold padE; rw [if_pos hE, if_neg hin]
      have hN0 : padN l p n = alignN p n := by unfold padN; rw [if_pos h6]
      rw [h6, hN0]
      refine (pad_zero (some ⟨g, 0, none⟩) n p _ _ _ w (by omega) hNl ha hE hin g v _ _ rfl hr.blk h23 h46).mono ?_
      rintro e w' ⟨rfl, w1, hb, rfl⟩
      have hr1 := hr.below hb (Nat.le_refl _)
      have hcl : p + alignN p n ≤ 8 * l.length := by
        obtain ⟨_, f2⟩ := firstE_front ([(true, 1)] ++ padC n) _ (by intro c hc; simp [padC] at hc; rcases hc with rfl | rfl <;> simp) hE
        cases hd : decide ((alignN p n : Int) ≤ ((8 * l.length : Nat) : Int) - p)
        · rw [hd] at f2; simp [firstE] at f2
        · simp at hd; omega
      refine ⟨rfl, ⟨?_, own_setCell hr1.own (own_not_blk hr1.own hr1.blk (by decide)) _, by rw [World.size_setCell]; exact hr1.base, hcl, hsm⟩, ((Two.refl _ _ _).below hb).set (.inl rfl)⟩
      have := hr1.blk.set_ 2 (.int .i64 ((p : Int) + alignN p n))
      simpa using this
  · have hN : rN (rE l p (padC n) (alignN p n)) (alignN p n) = 0 := by unfold rN; rw [if_neg hE]
    have h6 : padE l p n = rE l p (padC n) (alignN p n) := by unfold padE; rw [if_neg hE]
    have hN0 : padN l p n = 0 := by unfold padN; rw [h6, if_neg hE]
    rw [h6, hN0]
    refine (pad_err (some ⟨g, 0, none⟩) n p _ _ _ w (by omega) hNl (by simpa using hE) h23 h46).mono ?_
    rintro e w' ⟨rfl, hb⟩
    exact ⟨rfl, hr.below hb (Nat.le_refl _), (Two.refl _ _ _).below hb⟩

theorem pad_none (p : Option Addr) (n : Int) (w : World) (h49 : ∀ W, Below w.heap.size w W → Calls Try.prog 49 #[.pointer p] W fun e w' => e = .returned (.bool false) ∧ W = w') :
    Calls Try.prog 22 #[.pointer p, .int .i64 n] w fun e w' => e = .returned (.int .i64 1) ∧ Below w.heap.size w w' := by
  refine pad_err p n 0 1 [] 0 w (by omega) (by simp) rfl (fun W hb => rplace_none _ W (h49 W hb)) fun b W hb hc => ?_
  refine (read_err p _ 0 1 false b 1 _ W hc rfl (by omega) (by omega) (fun W2 h2 => h49 W2 (hb.trans (h2.mono hb.size))) (fun W2 h2 => (rleft_none _ W2 (h49 W2 (hb.trans (h2.mono hb.size)))).mono ?_) rfl rfl).mono ?_
  · rintro e w' ⟨rfl, rfl⟩
    exact ⟨rfl, Below.refl _ _⟩
  · rintro e w' ⟨rfl, h⟩
    exact ⟨_, rfl, World.ownsRow_nil _ _ 5 1, h⟩

set_option maxRecDepth 100000 in
theorem newWriter_any (w : World) : Calls Try.prog 10 #[] w fun e w' => e = .returned (.pointer (some ⟨w.heap.size, 0, none⟩)) ∧ WS w' w.heap.size w.heap.size 63 [.bool true] (.slice none 0 0) [] ∧ Below w.heap.size w w' := by
  go_enter Try.func10, Try.ntmps10
  go_wp2_with fail
  go_ret
  exact ⟨rfl, ⟨Blk.new w 63 _, World.ownsRow_nil _ _ 5 1, by simp⟩, (Below.refl _ w).alloc (Nat.le_refl _) _⟩

set_option maxRecDepth 100000 in
theorem out_some (B g : Nat) (val : Value) (bs : List Bool) (w : World) (hw : WS w B g 63 [.bool true] val bs) (hm : bs.length ≤ 8388608) :
    Calls Try.prog 12 #[.pointer (some ⟨g, 0, none⟩)] w fun e w' => Rowed w 5 ((bs.length + 7) / 8) ((pack bs).map u8) (fun v => v) e w' := by
  obtain ⟨A, cap, rfl, -, -, h0, -⟩ := own_form hw.own
  have C36 := Lib.hid (wis_some g _ _ _ w hw.blk)
  have C38 := Lib.hid (clone_any A _ cap _ w (by omega) (holds_own hw.own) (u8_one _) (fun h => (h0 h).2))
  have h1 := hw.blk.cell 0
  simp at h1
  clear hw hm h0
  go_enter Try.func12, Try.ntmps12
  go_wp2_with (first
    | (go_at_call 36; (with_reducible refine C36.out.mono ?_); rintro e w1 ⟨rfl, rfl⟩)
    | (go_at_call 38; (with_reducible refine C38.out.mono ?_); rintro e w1 ⟨v, rfl, ho, hb⟩; have HO := Lib.hid ho; have HB := Lib.hid hb; clear ho hb))
  go_ret
  exact ⟨_, rfl, HO.out, HB.out⟩
set_option maxRecDepth 100000 in
theorem out_none (p : Value) (w : World) (c0 : Calls Try.prog 36 #[p] w fun e w' => e = .returned (.bool false) ∧ w = w') : Calls Try.prog 12 #[p] w fun e w' => e = .returned (.slice none 0 0) ∧ w = w' := by
  have C0 := Lib.hid c0
  clear c0
  go_enter Try.func12, Try.ntmps12
  go_wp2_with (go_at_call 36; (with_reducible refine C0.out.mono ?_); rintro e w1 ⟨rfl, rfl⟩)
  go_ret
  exact ⟨rfl, rfl⟩
set_option maxRecDepth 100000 in
theorem wcopy_none (p : Value) (w : World) (c0 : Calls Try.prog 36 #[p] w fun e w' => e = .returned (.bool false) ∧ w = w') : Calls Try.prog 29 #[p] w fun e w' => e = .returned (.pointer none) ∧ w = w' := by
  have C0 := Lib.hid c0
  clear c0
  go_enter Try.func29, Try.ntmps29
  go_wp2_with (go_at_call 36; (with_reducible refine C0.out.mono ?_); rintro e w1 ⟨rfl, rfl⟩)
  go_ret
  exact ⟨rfl, rfl⟩
set_option maxRecDepth 100000 in
theorem rcopy_none (p : Value) (w : World) (c0 : Calls Try.prog 49 #[p] w fun e w' => e = .returned (.bool false) ∧ w = w') : Calls Try.prog 26 #[p] w fun e w' => e = .returned (.pointer none) ∧ w = w' := by
  have C0 := Lib.hid c0
  clear c0
  go_enter Try.func26, Try.ntmps26
  go_wp2_with (go_at_call 49; (with_reducible refine C0.out.mono ?_); rintro e w1 ⟨rfl, rfl⟩)
  go_ret
  exact ⟨rfl, rfl⟩
set_option maxRecDepth 100000 in
theorem rbits_none (p : Value) (w : World) (c0 : Calls Try.prog 49 #[p] w fun e w' => e = .returned (.bool false) ∧ w = w') : Calls Try.prog 32 #[p] w fun e w' => e = .returned (.func (.func 61) #[] #[]) ∧ w = w' := by
  have C0 := Lib.hid (rcopy_none p w c0)
  clear c0
  go_enter Try.func32, Try.ntmps32
  go_wp2_with (go_at_call 26; (with_reducible refine C0.out.mono ?_); rintro e w1 ⟨rfl, rfl⟩)
  go_ret
  exact ⟨rfl, rfl⟩
end Go.Proofs.Ythgbnpafhkhjpaa

/- A sum in the making: its state as a function of the bytes that were written; contracts of its methods. -/
import Derived.Test.YtcjmeiklfkiibaaFlipP
import Derived.Test.YtcjmeiklfkiibaaKn
namespace Go.Proofs.Ytcjmeiklfkiibaa
open Go.RowKit

theorem wrdS_append (l m : List UInt8) : ∀ c a, wrdS c a (l ++ m) = wrdS (c + l.length) (wrdS c a l) m := by
  induction l with
  | nil => intro c a; simp [wrdS]
  | cons x l ih =>
    intro c a
    rw [List.cons_append, wrdS, wrdS, ih, List.length_cons, show c + 1 + (l.length : Int) = c + ((l.length + 1 : Nat) : Int) by omega]
theorem adlS_append (l m : List UInt8) : ∀ a b, adlS a b (l ++ m) = adlS (adlS a b l).1 (adlS a b l).2 m := by
  induction l with
  | nil => intro a b; simp [adlS]
  | cons x l ih => intro a b; rw [List.cons_append, adlS, adlS, ih]

def stA (k : Int) (l : List UInt8) : Int := if k = 1 then wrdS 0 0 l else if k = 2 then (divS 65535 l : Int) else (adlS 1 0 l).1
def stB (k : Int) (l : List UInt8) : Int := if k = 3 then (adlS 1 0 l).2 else 0
/-- The block of a sum that has seen the bytes l. -/
def SumS (w : World) (g : Nat) (k : Int) (l : List UInt8) : Prop := Blk w g 56 #[.int .i64 (stA k l), .int .i64 (stB k l), .int .i64 l.length, .int .i64 k]
/-- The ends of a function that makes a sum. -/
def Summed (w : World) (k : Int) (l : List UInt8) (r : Value → Value) (e : Ending) (w' : World) : Prop := ∃ g, e = .returned (r (.pointer (some ⟨g, 0, none⟩))) ∧ w.heap.size ≤ g ∧ SumS w' g k l ∧ Below w.heap.size w w'

theorem new_ok (k : Int) (hk : 1 ≤ k ∧ k ≤ 3) (w : World) : Calls Try.prog 20 #[.int .i64 k] w fun e w' => Summed w k [] (fun p => .tuple #[p, .int .i64 0]) e w' := by
  have h3 : k = 1 ∨ k = 2 ∨ k = 3 := by omega
  have h : Calls Try.prog 20 #[.int .i64 k] w fun e w' => Newed w k e w' := by
    rcases h3 with rfl | rfl | rfl
    · exact new_1 w
    · exact new_2 w
    · exact new_3 w
  refine h.mono fun e w' ⟨g, he, hg, hb, hw⟩ => ⟨g, he, hg, ?_, hw⟩
  unfold SumS stA stB
  rcases h3 with rfl | rfl | rfl <;> exact hb
theorem write_ok (k : Int) (hk : 1 ≤ k ∧ k ≤ 3) (A : Option Addr) (n c g : Nat) (l m : List UInt8) (w : World) (hl : m.length = n) (hn : n ≤ 60000) (hm : l.length < 60000)
    (hb : BS w w.heap.size A m) (hne : 0 < n → ∀ p : Addr, A = some p → p.block ≠ g) (hg : SumS w g k l) :
    Calls Try.prog 21 #[.pointer (some ⟨g, 0, none⟩), .slice A n c] w fun e w' => (e = .returned (.int .i64 0) ∧ SumS w' g k (l ++ m)) ∧ w.grownBy w' (some g) := by
  have h3 : k = 1 ∨ k = 2 ∨ k = 3 := by omega
  have e : ((l ++ m).length : Int) = (l.length : Int) + n := by rw [List.length_append, hl]; omega
  unfold SumS stA stB at *
  rw [e]
  rcases h3 with rfl | rfl | rfl
  · have hr := wrdS_range l 0 0 (by omega) (by omega)
    have h := write_1 A n c g (wrdS 0 0 l) 0 l.length m w hl hn hr.1 hr.2 (by omega) (by omega) hb hne hg
    rw [if_pos rfl, wrdS_append, Int.zero_add]
    exact h
  · have hr := divS_lt l 65535 (by omega)
    have h := write_2 A n c g (divS 65535 l) 0 l.length m w hl hn hr (by omega) (by omega) hb hne hg
    rw [if_neg (by omega), if_pos rfl, divS_append]
    exact h
  · have hr := adlS_range l 1 0 (by omega) (by omega) (by omega) (by omega)
    have h := write_3 A n c g (adlS 1 0 l).1 (adlS 1 0 l).2 l.length m w hl hn hr.1.1 hr.1.2 hr.2.1 hr.2.2 (by omega) (by omega) hb hne hg
    rw [if_neg (by omega), if_neg (by omega), if_pos rfl, adlS_append]
    exact h
theorem sum_ok (k : Int) (hk : 1 ≤ k ∧ k ≤ 3) (g : Nat) (l : List UInt8) (w : World) (hg : SumS w g k l) :
    Calls Try.prog 22 #[.pointer (some ⟨g, 0, none⟩)] w fun e w' => e = .returned (.tuple #[.int .i64 (chkS k l), .int .i64 0]) ∧ Below w.heap.size w w' := by
  have h3 : k = 1 ∨ k = 2 ∨ k = 3 := by omega
  unfold SumS stA stB at hg
  unfold chkS
  rcases h3 with rfl | rfl | rfl
  · have hr := wrdS_range l 0 0 (by omega) (by omega)
    exact sum_1 g _ 0 l.length w hr.1 hr.2 hg
  · exact sum_2 g _ 0 l.length w hg
  · have hr := adlS_range l 1 0 (by omega) (by omega) (by omega) (by omega)
    rw [if_neg (by omega), if_neg (by omega)]
    exact sum_3 g (adlS 1 0 l).1 (adlS 1 0 l).2 l.length w hr.1.1 (by omega) hr.2.1 (by omega) hg

set_option maxRecDepth 100000 in
theorem len_ok (k : Int) (hk : 1 ≤ k ∧ k ≤ 3) (g : Nat) (l : List UInt8) (w : World) (hg : SumS w g k l) :
    Calls Try.prog 24 #[.pointer (some ⟨g, 0, none⟩)] w fun e w' => e = .returned (.int .i64 l.length) ∧ w = w' := by
  have c0 := none_some g 56 _ _ _ k w hg
  rw [show decide (k = 0) = false from by simp; omega] at c0
  have e2 := Blk.cell hg 2
  simp at e2
  have C0 := Lib.hid c0
  clear c0 hk
  go_enter Try.func24, Try.ntmps24
  go_wp2_with (go_at_call 32; (with_reducible refine C0.out.mono ?_); rintro e w1 ⟨rfl, rfl⟩)
  go_ret
  exact ⟨rfl, rfl⟩
set_option maxRecDepth 100000 in
theorem len_nil (w : World) : Calls Try.prog 24 #[.pointer none] w fun e w' => e = .returned (.int .i64 0) ∧ w = w' := by
  have C0 := Lib.hid (none_nil w)
  go_enter Try.func24, Try.ntmps24
  go_wp2_with (go_at_call 32; (with_reducible refine C0.out.mono ?_); rintro e w1 ⟨rfl, rfl⟩)
  go_ret
  exact ⟨rfl, rfl⟩
set_option maxRecDepth 100000 in
theorem copy_ok (k : Int) (hk : 1 ≤ k ∧ k ≤ 3) (g : Nat) (l : List UInt8) (w : World) (hg : SumS w g k l) :
    Calls Try.prog 23 #[.pointer (some ⟨g, 0, none⟩)] w fun e w' => Summed w k l (fun p => p) e w' := by
  have c0 := none_some g 56 _ _ _ k w hg
  rw [show decide (k = 0) = false from by simp; omega] at c0
  have e0 := Blk.cell hg 0
  have e1 := Blk.cell hg 1
  have e2 := Blk.cell hg 2
  have e3 := Blk.cell hg 3
  simp at e0 e1 e2 e3
  have C0 := Lib.hid c0
  clear c0 hk hg
  go_enter Try.func23, Try.ntmps23
  go_wp2_with (go_at_call 32; (with_reducible refine C0.out.mono ?_); rintro e w1 ⟨rfl, rfl⟩)
  go_ret
  exact ⟨w.heap.size, rfl, Nat.le_refl _, Blk.new w 56 _, (Below.refl _ w).alloc (Nat.le_refl _) _⟩
set_option maxRecDepth 100000 in
theorem copy_nil (w : World) : Calls Try.prog 23 #[.pointer none] w fun e w' => e = .returned (.pointer none) ∧ w = w' := by
  have C0 := Lib.hid (none_nil w)
  go_enter Try.func23, Try.ntmps23
  go_wp2_with (go_at_call 32; (with_reducible refine C0.out.mono ?_); rintro e w1 ⟨rfl, rfl⟩)
  go_ret
  exact ⟨rfl, rfl⟩
end Go.Proofs.Ytcjmeiklfkiibaa

/- A reader's state and the small contracts on it; clones. -/
import Derived.Test.YthgbnpafhkhjpaaAl2
import Derived.BigQuiet
namespace Go.Proofs.Ythgbnpafhkhjpaa
open Go.RowKit
set_option linter.unusedVariables false
set_option linter.unusedSimpArgs false

/-- The ends of a function that returns fresh cells of type e. -/
def Rowed (w : World) (e : TypeId) (n : Nat) (xs : List Value) (r : Value → Value) (en : Ending) (w' : World) : Prop := ∃ v, en = .returned (r v) ∧ w'.ownsRow w.heap.size e 1 v n xs ∧ Below w.heap.size w w'

set_option maxRecDepth 100000 in
theorem clone_any (A : Option Addr) (n c : Nat) (xs : List Value) (w : World) (hn : n ≤ 2000000) (hs : Holds w A n xs) (h1 : ∀ u ∈ xs, u.oneCell' = true) (hc : A = none → c = 0) :
    Calls Try.prog 38 #[.slice A n c] w fun e w' => Rowed w 5 n xs (fun v => v) e w' := by
  cases A with
  | none =>
    obtain ⟨h0, _⟩ := hs.2.1 rfl
    subst h0
    obtain rfl : xs = [] := List.eq_nil_of_length_eq_zero (by simpa using hs.1)
    obtain rfl := hc rfl
    have hnil : ∀ W : World, (binOp .eql 27 (.slice none 0 0) (.slice none 0 0)).run Try.prog W = .ok (.bool true) W := fun W => by kernel_rfl
    clear hs h1 hc
    go_enter Try.func38, Try.ntmps38
    go_wp2_with fail
    go_ret
    exact ⟨_, rfl, World.ownsRow_nil _ _ 5 1, Below.refl _ _⟩
  | some a =>
    have HS := Lib.hid hs
    have H1 := Lib.hid h1
    have HN := Lib.hid hn
    have hnil := Lib.run_eql_slice_nil (P := Try.prog) w 27 5 (some a) n c 0 0 Try.underlying27
    simp at hnil
    clear hs h1 hn hc
    go_enter Try.func38, Try.ntmps38
    go_wp2_with (at_builtin; go_must (refine wpList_app_own (base := w.heap.size) (n := 0) (m := n) (xs := []) (news := xs) rfl (.tmp 5) (.tmp 6) 27 rfl el27 rfl (own_none00 w 5) rfl (HS.out.alloc _) H1.out (by have := HN.out; unfold maxLen; omega) (by have := HN.out; omega) (by simp) ?_; intro v1 w1 hown hg _; rw [Nat.zero_add, List.nil_append] at hown; have HO := Lib.hid hown; have HB := Lib.hid (below_own ((Below.refl w.heap.size w).alloc (Nat.le_refl _) _) (by simp) (own_none00 w 5) hg); clear hown hg))
    go_ret
    exact ⟨v1, rfl, HO.out, HB.out⟩

/-- A reader's state: its own bytes, and its place. -/
structure RS (w : World) (B g : Nat) (v : Value) (l : List UInt8) (p : Nat) : Prop where
  blk : Blk w g 66 #[v, .int .i64 ((8 * l.length : Nat) : Int), .int .i64 p, .bool true]
  own : w.ownsRow B 5 1 v l.length (l.map u8)
  base : B ≤ w.heap.size
  place : p ≤ 8 * l.length
  small : l.length ≤ 1048576
theorem RS.below {w w' : World} {B g b p : Nat} {v : Value} {l : List UInt8} (h : RS w B g v l p) (hb : Below b w w') (hs : w.heap.size ≤ b) : RS w' B g v l p :=
  ⟨h.blk.below hb (Nat.lt_of_lt_of_le h.blk.lt hs), own_keeps h.own fun k hk => hb.block k (Nat.lt_of_lt_of_le (own_lt h.own k hk) hs), Nat.le_trans h.base hb.size, h.place, h.small⟩

set_option maxRecDepth 100000 in
theorem ris_nil (w : World) : Calls Try.prog 49 #[.pointer none] w fun e w' => e = .returned (.bool false) ∧ w = w' := by
  go_enter Try.func49, Try.ntmps49
  go_wp2_with fail
  go_ret
  exact ⟨rfl, rfl⟩
set_option maxRecDepth 100000 in
theorem ris_some (g : Nat) (v : Value) (m p : Int) (t : Bool) (w : World) (hg : Blk w g 66 #[v, .int .i64 m, .int .i64 p, .bool t]) : Calls Try.prog 49 #[.pointer (some ⟨g, 0, none⟩)] w fun e w' => e = .returned (.bool t) ∧ w = w' := by
  have h2 := hg.cell 3
  simp at h2
  clear hg
  go_enter Try.func49, Try.ntmps49
  go_wp2_with fail
  go_ret
  exact ⟨rfl, rfl⟩
set_option maxRecDepth 100000 in
theorem rplace_some (g : Nat) (v : Value) (m p : Int) (w : World) (hg : Blk w g 66 #[v, .int .i64 m, .int .i64 p, .bool true]) : Calls Try.prog 23 #[.pointer (some ⟨g, 0, none⟩)] w fun e w' => e = .returned (.int .i64 p) ∧ w = w' := by
  have c0 := ris_some g v m p true w hg
  have h1 := hg.cell 2
  simp at h1
  have C0 := Lib.hid c0
  clear c0 hg
  go_enter Try.func23, Try.ntmps23
  go_wp2_with (go_at_call 49; (with_reducible refine C0.out.mono ?_); rintro e w1 ⟨rfl, rfl⟩)
  go_ret
  exact ⟨rfl, rfl⟩
set_option maxRecDepth 100000 in
theorem rplace_none (p : Value) (w : World) (c0 : Calls Try.prog 49 #[p] w fun e w' => e = .returned (.bool false) ∧ w = w') : Calls Try.prog 23 #[p] w fun e w' => e = .returned (.int .i64 0) ∧ w = w' := by
  have C0 := Lib.hid c0
  clear c0
  go_enter Try.func23, Try.ntmps23
  go_wp2_with (go_at_call 49; (with_reducible refine C0.out.mono ?_); rintro e w1 ⟨rfl, rfl⟩)
  go_ret
  exact ⟨rfl, rfl⟩
set_option maxRecDepth 100000 in
theorem rleft_some (g : Nat) (v : Value) (m p : Nat) (w : World) (hm : m ≤ 10000000) (hp : p ≤ m) (hg : Blk w g 66 #[v, .int .i64 m, .int .i64 p, .bool true]) : Calls Try.prog 24 #[.pointer (some ⟨g, 0, none⟩)] w fun e w' => e = .returned (.int .i64 ((m : Int) - p)) ∧ Below w.heap.size w w' := by
  have c0 := ris_some g v m p true w hg
  have h1 := hg.cell 1
  have h2 := hg.cell 2
  simp at h1 h2
  have C0 := Lib.hid c0
  have q1 : (p : Int) ≤ m := by omega
  have q2 : (m : Int) ≤ 10000000 := by omega
  have q3 : (0 : Int) ≤ p := by omega
  clear c0 hg
  go_enter Try.func24, Try.ntmps24
  go_wp2_with (go_at_call 49; (with_reducible refine C0.out.mono ?_); rintro e w1 ⟨rfl, rfl⟩)
  go_region
  go_wp2_with fail
  go_ret
  exact ⟨rfl, below_drew (Below.refl _ _)⟩
set_option maxRecDepth 100000 in
theorem rleft_none (p : Value) (w : World) (c0 : Calls Try.prog 49 #[p] w fun e w' => e = .returned (.bool false) ∧ w = w') : Calls Try.prog 24 #[p] w fun e w' => e = .returned (.int .i64 0) ∧ w = w' := by
  have C0 := Lib.hid c0
  clear c0
  go_enter Try.func24, Try.ntmps24
  go_wp2_with (go_at_call 49; (with_reducible refine C0.out.mono ?_); rintro e w1 ⟨rfl, rfl⟩)
  go_ret
  exact ⟨rfl, rfl⟩
set_option maxRecDepth 100000 in
theorem raligned_any (p : Option Addr) (pl : Int) (w : World) (h23 : ∀ W, Below w.heap.size w W → Calls Try.prog 23 #[.pointer p] W fun e w' => e = .returned (.int .i64 pl) ∧ W = w') :
    Calls Try.prog 66 #[.pointer p] w fun e w' => e = .returned (.agg #[.bool (pl.tmod 8 == 0), .int .i64 8]) ∧ w.alloc (.cells #[.bool (pl.tmod 8 == 0), .int .i64 8] 72) = w' := by
  have C := Lib.hid (h23 (w.alloc (.cells #[.bool false, .int .i64 0] 72)) ((Below.refl _ w).alloc (Nat.le_refl _) _))
  clear h23
  go_enter Try.func66, Try.ntmps66
  go_wp2_with (go_at_call 23; (with_reducible refine C.out.mono ?_); rintro e w1 ⟨rfl, rfl⟩)
  refine bodyPost_ret (v := .agg #[.bool (pl.tmod 8 == 0), .int .i64 8]) ?_ rfl ⟨rfl, rfl⟩
  exact results_cell_row rfl _ _ w.heap.size 72 #[.bool (pl.tmod 8 == 0), .int .i64 8] (0, 0) _ rfl (Blk.new w 72 _) Try.underlying72 rfl (by kernel_rfl)

set_option maxRecDepth 100000 in
theorem newReader_ok (A : Option Addr) (n c : Nat) (l : List UInt8) (w : World) (hn : n ≤ 1048576) (hl : Holds w A n (l.map u8)) (hc : A = none → c = 0) :
    Calls Try.prog 14 #[.slice A n c] w fun e w' => ∃ g v, e = .returned (.tuple #[.pointer (some ⟨g, 0, none⟩), .int .i64 0]) ∧ w.heap.size ≤ g ∧ RS w' w.heap.size g v l 0 ∧ Below w.heap.size w w' ∧ v.ownBlock ≠ some g := by
  have C := Lib.hid (clone_any A n c (l.map u8) w (by omega) hl (u8_one l) hc)
  have hll : l.length = n := by have := hl.1; simpa using this
  have HL := Lib.hid hll
  have HN := Lib.hid hn
  have hn2 : (n : Int) ≤ 1048576 := by omega
  have hn0 : (0 : Int) ≤ n := by omega
  clear hl hll hn hc
  go_enter Try.func14, Try.ntmps14
  go_wp2_with (go_at_call 38; (with_reducible refine C.out.mono ?_); rintro e w1 ⟨v, rfl, ho, hb⟩; obtain ⟨A2, c2, rfl, -⟩ := own_form ho; have HO := Lib.hid ho; have HB := Lib.hid hb; clear ho hb)
  go_ret2
  refine ⟨w1.heap.size, .slice A2 n c2, rfl, HB.out.size, ⟨?_, ?_, ?_, by omega, ?_⟩, HB.out.alloc HB.out.size _, ?_⟩
  · have := Blk.new w1 66 #[.slice A2 n c2, .int .i64 (8 * (n : Int)), .int .i64 0, .bool true]
    rw [HL.out]
    simpa using this
  · rw [HL.out]; exact own_alloc HO.out
  · simp; have := HB.out.size; omega
  · rw [HL.out]; exact HN.out
  · intro e
    have := own_lt HO.out _ e
    omega
end Go.Proofs.Ythgbnpafhkhjpaa

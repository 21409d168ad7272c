/- A slice from a place on; parts of the walk of BitsYields. -/
import Derived.Test.YthgbnpafhkhjpaaRr
import Derived.Test.YthgbnpafhkhjpaaCp
import Derived.Test.YthgbnpafhkhjpaaL8
import Derived.Test.YthgbnpafhkhjpaaBi
namespace Go.Proofs.Ythgbnpafhkhjpaa
open Go.RowKit
set_option linter.unusedVariables false
set_option linter.unusedSimpArgs false

theorem RS.two {w w' : World} {B g g2 p : Nat} {v : Value} {l : List UInt8} (h : RS w B g v l p) (hb : Two g2 (.slice none 0 0) w w') (hne : g ≠ g2) (hv : v.ownBlock ≠ some g2) : RS w' B g v l p :=
  ⟨h.blk.two hb hne, own_two h.own hb hv, Nat.le_trans h.base hb.size, h.place, h.small⟩
theorem addr_add (a : Addr) (p j : Nat) : (a.add p).add j = a.add (p + j) := by
  obtain ⟨b, o, s⟩ := a
  by_cases hp : p = 0 <;> by_cases hj : j = 0 <;> simp [Addr.add, hp, hj, Nat.add_assoc]
theorem elem44 : Try.prog.underlying 44 = some (.slice (Try.prog.elem 44)) := by kernel_rfl
theorem size44 (W : World) : (sizeOf (Try.prog.elem 44)).run Try.prog W = .ok 1 W := by kernel_rfl
theorem slice_from (W : World) (A : Option Addr) (m c p : Nat) (bs : List Bool) (h : RB W A m c bs) (hp : p ≤ m) : ∃ A' c', (∀ W' : World, (Instr.slice 44 (.slice A m c) (some (.int .i64 (p : Int))) none none).run Try.prog W' = .ok (.slice A' (m - p) c') W') ∧ RB W A' (m - p) c' (bs.drop p) ∧ ∀ a, A' = some a → ∃ a0, A = some a0 ∧ a.block = a0.block := by
  have hl := h.len
  have hrun : ∀ W' : World, (Instr.slice 44 (.slice A m c) (some (.int .i64 (p : Int))) none none).run Try.prog W' = .ok (sliced A p m c 1) W' := fun W' => by
    rw [run_slice_l W' 44 A m c elem44 .i64 (p : Int) (by omega) (by omega), size44]
    rfl
  cases A with
  | none =>
    have h0 : m = 0 := (h.h.2.1 rfl).1
    have hc := h.z rfl
    subst h0 hc
    obtain rfl : p = 0 := by omega
    obtain rfl : bs = [] := List.eq_nil_of_length_eq_zero hl
    exact ⟨none, 0, fun W' => (hrun W').trans (by simp [sliced]), RB.nil W, fun a ha => by cases ha⟩
  | some a =>
    refine ⟨some (if c = p then a else a.add (p * 1)), c - p, fun W' => (hrun W').trans (by simp [sliced]; split <;> rfl), ⟨?_, by have := h.mc; omega, Nat.le_trans (Nat.sub_le _ _) h.cm, fun e => by cases e⟩, fun b hb => by
      cases hb
      refine ⟨a, rfl, ?_⟩
      split
      · rfl
      · by_cases h0 : p = 0 <;> simp [Addr.add, h0]⟩
    refine ⟨by simp; omega, (fun e => by cases e), fun b hb j u hu => ?_⟩
    have hj : j < m - p := by
      have := (List.getElem?_eq_some_iff.1 hu).1
      simp at this
      omega
    have hcp : c ≠ p := by have := h.mc; omega
    rw [if_neg hcp] at hb
    cases hb
    have := h.h.2.2 a rfl (p + j) u (by rw [List.getElem?_map, List.getElem?_drop] at hu; rw [List.getElem?_map]; exact hu)
    rw [Nat.mul_one, addr_add]
    exact this
theorem RB.low {w w' : World} {A : Option Addr} {m c B : Nat} {bs : List Bool} (h : RB w A m c bs) (hb : Below B w w') (hA : ∀ a, A = some a → a.block < B) : RB w' A m c bs :=
  ⟨⟨h.h.1, h.h.2.1, fun b hb' j u hu => by
    have h1 := h.h.2.2 b hb' j u hu
    have h2 : (b.add j).block = b.block := by by_cases h0 : j = 0 <;> simp [Addr.add, h0]
    rw [hb.cell (by rw [h2]; exact hA b hb')]
    exact h1⟩, h.mc, h.cm, h.z⟩
theorem RS.grown {w w' : World} {B g p : Nat} {v : Value} {l : List UInt8} {row : Option Nat} (h : RS w B g v l p) (hg : w.grownBy w' row) (h1 : some g ≠ row) (h2 : ∀ k, v.ownBlock = some k → some k ≠ row) : RS w' B g v l p :=
  ⟨h.blk.grown hg h1, own_keeps h.own fun k hk => hg.block k (own_lt h.own k hk) (h2 k hk), Nat.le_trans h.base hg.size, h.place, h.small⟩
/-- The number in a cell. -/
def turnOf (v : Value) (W : World) : Nat := match v with
  | .pointer (some p) => (match W.cell? p with | some (.int _ n) => n.toNat | _ => 0)
  | _ => 0
theorem turnOf_blk {W : World} {B t : Nat} (h : Blk W B 3 #[.int .i64 t]) : turnOf (.pointer (some ⟨B, 0, none⟩)) W = t := by
  have := h.cell 0
  simp at this
  simp [turnOf, this]
/-- The range's invariant, and how it is left. -/
structure YI (W7 : World) (Bk Bt : Nat) (Ds : List Nat) (s : Nat) (many : Int) (t j : Nat) (X : World) : Prop where
  k : Blk X Bk 3 #[.int .i64 j]
  bt : Blk X Bt 3 #[.int .i64 t]
  below : Below W7.heap.size W7 X
  marks : Marks W7.heap.size Ds X
  size : s ≤ X.heap.size
  c : t = 0 → j = 0 ∨ (j : Int) < many
structure YX (W7 : World) (Bk Bt : Nat) (Ds : List Nat) (s : Nat) (many : Int) (t : Nat) (cd : Code) (j : Nat) (X : World) : Prop where
  cd : cd = .exit 2
  k : Blk X Bk 3 #[.int .i64 j]
  bt : Blk X Bt 3 #[.int .i64 t]
  below : Below W7.heap.size W7 X
  marks : Marks W7.heap.size Ds X
  size : s ≤ X.heap.size
  t0 : t = 0
  c1 : many ≤ j
  c2 : j = 1 ∨ (j : Int) - 1 < many
  c3 : 1 ≤ j
/-- The loop's invariant. -/
def YLoop (n1 n2 Pb Sb : Nat) (W7 : World) (a : Act) (W : World) : Prop := ∃ (t Bt : Nat) (Ds : List Nat), a.tmps.size = 103 ∧ a.tmps.getD 5 undef = .pointer (some ⟨n1, 0, none⟩) ∧ a.tmps.getD 6 undef = .pointer (some ⟨n1 + 1, 0, none⟩) ∧ a.tmps.getD 9 undef = .pointer (some ⟨n2, 0, none⟩) ∧ a.tmps.getD 11 undef = .func (.func 65) #[] #[.pointer (some ⟨Pb, 0, none⟩), .pointer (some ⟨Sb, 0, none⟩)] ∧ a.tmps.getD 12 undef = .pointer (some ⟨Bt, 0, none⟩) ∧ a.defers = Ds.map mark ∧ t ≤ 2 ∧ Blk W Bt 3 #[.int .i64 t] ∧ W7.heap.size ≤ Bt ∧ Below W7.heap.size W7 W ∧ Marks W7.heap.size Ds W
end Go.Proofs.Ythgbnpafhkhjpaa

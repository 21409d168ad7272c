/- A row's tail. -/
import Derived.Test.YtkihoekldklkhaaDoorRb
import Derived.Test.YtkihoekldklkhaaDoorSl
namespace Go.Proofs.YtkihoekldklkhaaDoor
open Go.RowKit
set_option linter.unusedVariables false
set_option linter.unusedSimpArgs false

/-- A row of elements of a size, as a slice reads it. -/
structure TS (sz : Nat) (W : World) (A : Option Addr) (n c : Nat) (xs : List Value) : Prop where
  h : HoldsS W sz A n xs
  nc : n ≤ c
  cm : c ≤ maxLen
  z : A = none → c = 0
theorem TS.below {sz : Nat} {W W' : World} {A : Option Addr} {n c : Nat} {xs : List Value} (h : TS sz W A n c xs) (hb : Below W.heap.size W W') : TS sz W' A n c xs := ⟨h.h.keep hb, h.nc, h.cm, h.z⟩
theorem sliced_TS {sz : Nat} (W : World) (A : Option Addr) (n c : Nat) (xs : List Value) (h : TS sz W A n c xs) (h1 : 1 ≤ n) : ∃ A', sliced A 1 n c sz = .slice A' (n - 1) (c - 1) ∧ TS sz W A' (n - 1) (c - 1) (xs.drop sz) ∧ ∀ b, A' = some b → ∃ a, A = some a ∧ b.block = a.block := by
  cases A with
  | none => have := h.z rfl; have := h.nc; omega
  | some a =>
    refine ⟨some (if c = 1 then a else a.add (1 * sz)), by simp [sliced]; split <;> rfl, ⟨⟨?_, (fun e => by cases e), fun b hb j u hu => ?_⟩, by have := h.nc; omega, Nat.le_trans (Nat.sub_le _ _) h.cm, fun e => by cases e⟩, fun b hb => ⟨a, rfl, by cases hb; by_cases q1 : c = 1 <;> by_cases q2 : sz = 0 <;> simp [Addr.add, q1, q2]⟩⟩
    · rw [List.length_drop, h.h.1, Nat.sub_mul, Nat.one_mul]
    · have hj : j < (xs.drop sz).length := (List.getElem?_eq_some_iff.1 hu).1
      rw [List.length_drop, h.h.1] at hj
      have hn : n ≠ 1 := fun e => by subst e; omega
      have hc := h.nc
      rw [if_neg (by omega)] at hb
      cases hb
      rw [addr_add]
      refine h.h.2.2 a rfl _ u ?_
      rw [← hu, List.getElem?_drop, Nat.one_mul]
theorem elem24 : Tryd.prog.underlying 24 = some (.slice (Tryd.prog.elem 24)) := by kernel_rfl
theorem size24 (W : World) : (sizeOf (Tryd.prog.elem 24)).run Tryd.prog W = .ok 5 W := by kernel_rfl
theorem tail24 (W : World) (A : Option Addr) (n c : Nat) (xs : List Value) (h : TS 5 W A n c xs) (h1 : 1 ≤ n) : ∃ A', (∀ W' : World, (Instr.slice 24 (.slice A n c) (some (.int .i64 1)) none none).run Tryd.prog W' = .ok (.slice A' (n - 1) (c - 1)) W') ∧ TS 5 W A' (n - 1) (c - 1) (xs.drop 5) ∧ ∀ b, A' = some b → ∃ a, A = some a ∧ b.block = a.block := by
  obtain ⟨A', h2, h3⟩ := sliced_TS W A n c xs h h1
  exact ⟨A', fun W' => by rw [run_slice_l W' 24 A n c elem24 .i64 1 (by omega) (by omega), size24, ← h2]; rfl, h3⟩
theorem elem49 : Tryd.prog.underlying 49 = some (.slice (Tryd.prog.elem 49)) := by kernel_rfl
theorem size49 (W : World) : (sizeOf (Tryd.prog.elem 49)).run Tryd.prog W = .ok 4 W := by kernel_rfl
theorem tail49 (W : World) (A : Option Addr) (n c : Nat) (xs : List Value) (h : TS 4 W A n c xs) (h1 : 1 ≤ n) : ∃ A', (∀ W' : World, (Instr.slice 49 (.slice A n c) (some (.int .i64 1)) none none).run Tryd.prog W' = .ok (.slice A' (n - 1) (c - 1)) W') ∧ TS 4 W A' (n - 1) (c - 1) (xs.drop 4) ∧ ∀ b, A' = some b → ∃ a, A = some a ∧ b.block = a.block := by
  obtain ⟨A', h2, h3⟩ := sliced_TS W A n c xs h h1
  exact ⟨A', fun W' => by rw [run_slice_l W' 49 A n c elem49 .i64 1 (by omega) (by omega), size49, ← h2]; rfl, h3⟩

end Go.Proofs.YtkihoekldklkhaaDoor

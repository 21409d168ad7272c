/- The checksums as functions of the bytes, and their ranges. No program but the names of the specs. -/
import Derived.Test.YtgbkoegmoelheaaCkWrd
import Derived.Test.YtgbkoegmoelheaaCkDiv
namespace Go.Proofs.Ytgbkoegmoelheaa.Ck

theorem wrdS_range (l : List UInt8) : ∀ (c a : Int), 0 ≤ a → a ≤ 65535 → 0 ≤ wrdS c a l ∧ wrdS c a l ≤ 65535 := by
  induction l with
  | nil => intro c a h1 h2; exact ⟨h1, h2⟩
  | cons x l ih =>
    intro c a h1 h2
    rw [wrdS]
    have hx : (x.toNat : Int) < 256 := by have := x.toNat_lt; omega
    have hx0 : 0 ≤ (x.toNat : Int) := by omega
    split <;> exact ih _ _ (by omega) (by omega)
theorem adlS_range (l : List UInt8) : ∀ (a b : Int), 0 ≤ a → a < 65521 → 0 ≤ b → b < 65521 → (0 ≤ (adlS a b l).1 ∧ (adlS a b l).1 < 65521) ∧ 0 ≤ (adlS a b l).2 ∧ (adlS a b l).2 < 65521 := by
  induction l with
  | nil => intro a b h1 h2 h3 h4; exact ⟨⟨h1, h2⟩, h3, h4⟩
  | cons x l ih =>
    intro a b h1 h2 h3 h4
    rw [adlS]
    exact ih _ _ (by omega) (by omega) (by omega) (by omega)
theorem iterS_lt : ∀ (k a : Nat), a < 65536 → iterS k a < 65536
  | 0, _, h => h
  | k + 1, a, h => iterS_lt k (stepB a) (stepB_lt h)
theorem divS_lt (l : List UInt8) : ∀ a : Nat, a < 65536 → divS a l < 65536 := by
  induction l with
  | nil => intro a h; rw [divS_nil]; exact h
  | cons x l ih => intro a h; rw [divS_cons]; exact ih _ (iterS_lt 8 _ (xorB_lt h x.toNat_lt))

/-- The checksum of bytes of a kind from 1 to 3. -/
def chkS (k : Int) (l : List UInt8) : Int :=
  if k = 1 then 65535 - wrdS 0 0 l else if k = 2 then (divS 65535 l : Int) else (adlS 1 0 l).2 * 65536 + (adlS 1 0 l).1
end Go.Proofs.Ytgbkoegmoelheaa.Ck

/- The sum in ones' complement: the plain law. No program. -/
import Derived.Test.YtcjmeiklfkiibaaChk
namespace Go.Proofs.Ytcjmeiklfkiibaa

/-- The sum of the bytes' words; c bytes stand before. -/
def totS : Int → List UInt8 → Int
  | _, [] => 0
  | c, x :: l => (if c % 2 = 0 then (x.toNat : Int) * 256 else (x.toNat : Int)) + totS (c + 1) l
/-- A sum, its carries folded in. -/
def fT (t : Int) : Int := if t ≤ 0 then 0 else (t - 1) % 65535 + 1

theorem totS_range (l : List UInt8) : ∀ c : Int, 0 ≤ totS c l ∧ totS c l ≤ 65280 * l.length := by
  induction l with
  | nil => intro c; exact ⟨by simp [totS], by simp [totS]⟩
  | cons x l ih =>
    intro c
    have h := ih (c + 1)
    have hx : (x.toNat : Int) < 256 := by have := x.toNat_lt; omega
    have hx0 : 0 ≤ (x.toNat : Int) := by omega
    simp only [totS, List.length_cons]
    split <;> omega
theorem fT_same {x y : Int} (hx : 0 ≤ x) (hy : 0 ≤ y) (h : x % 65535 = y % 65535) (h0 : 0 < x ↔ 0 < y) : fT x = fT y := by
  unfold fT
  split <;> split <;> omega
theorem fT_low {x : Int} (h0 : 0 ≤ x) (h1 : x ≤ 65535) : fT x = x := by
  unfold fT
  split <;> omega
theorem wrdS_eq (l : List UInt8) : ∀ (c a : Int), 0 ≤ a → a ≤ 65535 → wrdS c a l = fT (a + totS c l) := by
  induction l with
  | nil => intro c a h1 h2; rw [wrdS, totS, Int.add_zero, fT_low h1 h2]
  | cons x l ih =>
    intro c a h1 h2
    have hx : (x.toNat : Int) < 256 := by have := x.toNat_lt; omega
    have hx0 : 0 ≤ (x.toNat : Int) := by omega
    have hr := totS_range l (c + 1)
    rw [wrdS, totS]
    generalize hv : (if c % 2 = 0 then (x.toNat : Int) * 256 else (x.toNat : Int)) = v
    have hv0 : 0 ≤ v ∧ v ≤ 65280 := by rw [← hv]; split <;> omega
    rw [ih _ _ (by omega) (by omega)]
    exact fT_same (by omega) (by omega) (by omega) (by omega)
end Go.Proofs.Ytcjmeiklfkiibaa

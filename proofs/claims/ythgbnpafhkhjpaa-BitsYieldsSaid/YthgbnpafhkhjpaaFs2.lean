/- The contract of first. -/
import Derived.Test.YthgbnpafhkhjpaaFst
namespace Go.Proofs.Ythgbnpafhkhjpaa
open Go.RowKit
set_option linter.unusedVariables false
set_option linter.unusedSimpArgs false

/-- The error of the first condition that does not hold, or 0. -/
def firstE : List (Bool × Int) → Int
  | [] => 0
  | (true, _) :: cs => firstE cs
  | (false, e) :: _ => e
theorem firstE_all : ∀ (cs : List (Bool × Int)), (∀ j (h : j < cs.length), cs[j].1 = true) → firstE cs = 0
  | [], _ => rfl
  | (true, _) :: cs, h => firstE_all cs fun j hj => h (j + 1) (by simp; omega)
  | (false, e) :: cs, h => by have := h 0 (by simp); cases this
theorem firstE_at : ∀ (cs : List (Bool × Int)) (i : Nat) (hi : i < cs.length), (∀ j (h : j < cs.length), j < i → cs[j].1 = true) → cs[i].1 = false → firstE cs = cs[i].2
  | [], i, hi, _, _ => by cases hi
  | (true, _) :: cs, 0, hi, _, hf => by cases hf
  | (false, e) :: cs, 0, hi, _, hf => rfl
  | (true, _) :: cs, i + 1, hi, h, hf => firstE_at cs i (by simp at hi; omega) (fun j hj hji => h (j + 1) (by simp; omega) (by omega)) hf
  | (false, e) :: cs, i + 1, hi, h, hf => by have := h 0 (by simp) (by omega); cases this

set_option maxRecDepth 100000 in
theorem first_any (b o n c : Nat) (cs : List (Bool × Int)) (w : World) (hn : cs.length = n) (hs : CS w b o cs) (hb : n ≤ 1000) : Calls Try.prog 62 #[.slice (some ⟨b, o, none⟩) n c] w fun e w' => e = .returned (.int .i64 (firstE cs)) ∧ Below w.heap.size w w' := by
  have HS := Lib.hid hs
  have HN := Lib.hid hn
  have C := Lib.hid (index_any b o n c cs w hn hs hb)
  clear hs hn hb
  go_enter Try.func62, Try.ntmps62
  go_wp2_with fail
  (with_reducible refine C.out.mono ?_); rintro e w1 (⟨⟨i, hi, rfl, hall, hil, hf⟩, b1⟩ | ⟨rfl, hall, b1⟩)
  · obtain ⟨k1, k2⟩ := (HS.out.keep b1) i hil
    have HE := Lib.hid (firstE_at cs i hil hall hf)
    have HB := Lib.hid b1
    have hi0 : (i : Int) < n := by omega
    clear hall hf b1 k1
    generalize cs[i].2 = E at *
    go_wp2_with fail
    go_ret
    exact ⟨by rw [HE.out]; rfl, HB.out⟩
  · have HE := Lib.hid (firstE_all cs hall)
    have HB := Lib.hid b1
    clear hall b1
    go_wp2_with fail
    go_ret
    exact ⟨by rw [HE.out]; rfl, HB.out⟩
end Go.Proofs.Ythgbnpafhkhjpaa

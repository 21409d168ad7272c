/- The contract of slices.IndexFunc over conditions. -/
import Derived.Test.YthgbnpafhkhjpaaSm
namespace Go.Proofs.Ythgbnpafhkhjpaa
open Go.RowKit
set_option linter.unusedVariables false
set_option linter.unusedSimpArgs false

set_option maxRecDepth 100000 in
theorem first1_any (t : Bool) (E : Int) (w : World) : Calls Try.prog 70 #[.agg #[.bool t, .int .i64 E]] w fun e w' => e = .returned (.bool (!t)) ∧ Below w.heap.size w w' := by
  have h0 := (Blk.new w 72 #[.bool t, .int .i64 E]).cell 0
  simp at h0
  go_enter Try.func70, Try.ntmps70
  go_wp2_with fail
  go_ret
  exact ⟨rfl, (Below.refl _ w).alloc (Nat.le_refl _) _⟩

/-- The cells of conditions. -/
def CS (w : World) (b o : Nat) (cs : List (Bool × Int)) : Prop := ∀ i (h : i < cs.length), w.cell? ⟨b, o + i * 2, none⟩ = some (.bool cs[i].1) ∧ w.cell? ⟨b, o + i * 2 + 1, none⟩ = some (.int .i64 cs[i].2)
theorem CS.keep {w w' : World} {b o : Nat} {cs : List (Bool × Int)} (h : CS w b o cs) (hb : Below w.heap.size w w') : CS w' b o cs := fun i hi => by
  obtain ⟨h1, h2⟩ := h i hi
  exact ⟨by rw [hb.cell (World.block_lt_of_cell? _ _ h1)]; exact h1, by rw [hb.cell (World.block_lt_of_cell? _ _ h2)]; exact h2⟩
/-- The index of the first condition that does not hold, or -1. -/
def failI (cs : List (Bool × Int)) : Int := match cs.findIdx? (fun c => !c.1) with
  | some i => i
  | none => -1

set_option maxRecDepth 100000 in
set_option maxHeartbeats 1000000 in
theorem index_any (b o n c : Nat) (cs : List (Bool × Int)) (w : World) (hn : cs.length = n) (hs : CS w b o cs) (hb : n ≤ 1000) : Calls Try.prog 69 #[.slice (some ⟨b, o, none⟩) n c, .func (.func 70) #[] #[]] w fun e w' => (∃ i : Nat, i < n ∧ e = .returned (.int .i64 i) ∧ (∀ j (h : j < cs.length), j < i → cs[j].1 = true) ∧ ∃ h : i < cs.length, cs[i].1 = false) ∧ Below w.heap.size w w' ∨ (e = .returned (.int .i64 (-1)) ∧ (∀ j (h : j < cs.length), cs[j].1 = true) ∧ Below w.heap.size w w') := by
  have HS := Lib.hid hs
  have HN := Lib.hid hn
  have hb2 : (n : Int) ≤ 1000 := by omega
  clear hs hn hb
  go_enter Try.func69, Try.ntmps69
  go_wp2_with fail
  go_loopw [8] (fun ii wz => ∃ i : Nat, (i : Int) ≤ n ∧ ii = .int .i64 i ∧ Hid (∀ j (h : j < cs.length), j < i → cs[j].1 = true) ∧ Hid (Below w.heap.size w wz)) (fun ii _ => n - (intOf ii).toNat)
  case atStart => exact ⟨0, by omega, rfl, Lib.hid (fun j h hj => absurd hj (Nat.not_lt_zero j)), Lib.hid (Below.refl _ _)⟩
  case round =>
    obtain ⟨i, hi, rfl, HI, HB⟩ := hrel
    have hi0 : (0 : Int) ≤ i := by omega
    by_cases hlt : (i : Int) < n
    · have hil : i < cs.length := by rw [HN.out]; omega
      obtain ⟨k1, k2⟩ := (HS.out.keep HB.out) i hil
      obtain ⟨t, ht⟩ : ∃ t, cs[i].1 = t := ⟨_, rfl⟩
      rw [ht] at k1
      have HT := Lib.hid ht
      clear ht
      generalize cs[i].2 = E at k2
      cases t
      · go_wp2_with (go_at_call 70; (with_reducible refine (first1_any _ _ _).mono ?_); rintro e w1 ⟨rfl, b1⟩; have HB1 := Lib.hid (HB.out.trans (b1.mono HB.out.size)); clear b1)
        go_ret
        exact .inl ⟨⟨i, by omega, rfl, HI.out, hil, HT.out⟩, HB1.out⟩
      · go_wp2_with (go_at_call 70; (with_reducible refine (first1_any _ _ _).mono ?_); rintro e w1 ⟨rfl, b1⟩; have HB1 := Lib.hid (HB.out.trans (b1.mono HB.out.size)); clear b1)
        go_roundw
        case rel => exact ⟨i + 1, by omega, by go_num, Lib.hid (fun j h hj => by
          rcases Nat.lt_succ_iff_lt_or_eq.1 hj with h' | rfl
          · exact HI.out j h h'
          · exact HT.out), HB1⟩
        case measure => simp [intOf]; omega
    · have hall := Lib.hid (show ∀ j (h : j < cs.length), cs[j].1 = true from fun j h => HI.out j h (by rw [HN.out] at h; omega))
      go_wp2_with fail
      go_ret
      exact .inr ⟨rfl, hall.out, HB.out⟩
end Go.Proofs.Ythgbnpafhkhjpaa

/- The walk of CheckBytes. -/
import Derived.Test.YtcjmeiklfkiibaaRByt
namespace Go.Proofs.Ytcjmeiklfkiibaa
open Go.RowKit

/-- The ends of a function that returns fresh bytes and a number. -/
def BytE (l : List UInt8) (E : Int) (w : World) (e : Ending) (w' : World) : Prop := ∃ val, e = .returned (.tuple #[val, .int .i64 E]) ∧ w'.ownsRow w.heap.size 5 1 val l.length (l.map u8) ∧ Below w.heap.size w w'

theorem lenS_eq (k v : Int) : lenS k = (bytS k v).length := by unfold lenS bytS; split <;> rfl
theorem Byted.e {k v : Int} {w w' : World} {e : Ending} (h : Byted k v w e w') : BytE (bytS k v) 0 w e w' := by
  obtain ⟨val, he, ho, hb⟩ := h
  rw [lenS_eq k v] at ho
  exact ⟨val, he, ho, hb⟩
theorem bytE_no {E : Int} {w w' : World} {e : Ending} (he : e = .returned (.tuple #[.slice none 0 0, .int .i64 E])) (hb : Below w.heap.size w w') : BytE [] E w e w' := ⟨_, he, World.ownsRow_nil w' _ 5 1, hb⟩

theorem bytes_both (k v : Int) : ∃ (l : List UInt8) (E : Int), l.length ≤ 4 ∧ (∀ w, Calls Try.prog 16 #[.int .i64 k, .int .i64 v] w fun e w' => BytE l E w e w') ∧ ∀ w, Calls Try.prog 17 #[.int .i64 k, .int .i64 v] w fun e w' => BytE l E w e w' := by
  have hlen : (bytS k v).length ≤ 4 := by unfold bytS; split <;> simp
  by_cases hb : k < 1 ∨ 3 < k
  · exact ⟨[], 2, by simp, fun w => (byt_badk k v w hb).mono fun e w' ⟨he, h⟩ => bytE_no he h, fun w => (rbyt_bad k v w hb).mono fun e w' ⟨he, h⟩ => bytE_no he (h ▸ Below.refl _ _)⟩
  by_cases h3 : k = 3
  · by_cases hv : v < 0 ∨ 4294967296 ≤ v
    · refine ⟨[], 2, by simp, fun w => ?_, fun w => (rbyt_out_4 k v h3 w hv).mono fun e w' ⟨he, h⟩ => bytE_no he (h ▸ Below.refl _ _)⟩
      subst h3
      exact (byt_out_3 v w hv).mono fun e w' ⟨he, h⟩ => bytE_no he h
    · refine ⟨_, 0, hlen, fun w => ?_, fun w => (rbyt_4 k v h3 w (by omega) (by omega)).mono fun e w' h => h.e⟩
      subst h3
      exact (byt_3 v w (by omega) (by omega)).mono fun e w' h => h.e
  · have h12 : k = 1 ∨ k = 2 := by omega
    by_cases hv : v < 0 ∨ 65536 ≤ v
    · refine ⟨[], 2, by simp, fun w => ?_, fun w => (rbyt_out_2 k v h12 w hv).mono fun e w' ⟨he, h⟩ => bytE_no he (h ▸ Below.refl _ _)⟩
      rcases h12 with rfl | rfl
      · exact (byt_out_1 v w hv).mono fun e w' ⟨he, h⟩ => bytE_no he h
      · exact (byt_out_2 v w hv).mono fun e w' ⟨he, h⟩ => bytE_no he h
    · refine ⟨_, 0, hlen, fun w => ?_, fun w => (rbyt_2 k v h12 w (by omega) (by omega)).mono fun e w' h => h.e⟩
      rcases h12 with rfl | rfl
      · exact (byt_1 v w (by omega) (by omega)).mono fun e w' h => h.e
      · exact (byt_2 v w (by omega) (by omega)).mono fun e w' h => h.e

set_option maxRecDepth 100000 in
set_option maxHeartbeats 1000000 in
theorem bytes_law (k v : Int) (w : World) (_ : (Lit.int IntKind.i64 k).wf = true) (_ : (Lit.int IntKind.i64 v).wf = true) :
    Calls Try.prog 4 #[.int .i64 k, .int .i64 v] w fun e w' => e = .returned (.bool true) ∧ Below w.heap.size w w' := by
  obtain ⟨l, E, hl, c1, c2⟩ := bytes_both k v
  have HL := Lib.hid hl
  have C1 := Lib.hid c1
  have C2 := Lib.hid c2
  clear hl c1 c2
  go_enter Try.func4, Try.ntmps4
  go_wp2_with fail
  (with_reducible refine (C1.out _).mono ?_); rintro e w1 ⟨val, rfl, ho, hb⟩
  obtain ⟨A1, cap1, rfl, -⟩ := own_form ho
  have HO1 := Lib.hid ho
  have HB1 := Lib.hid hb
  clear ho hb
  go_wp2_with fail
  (with_reducible refine (C2.out _).mono ?_); rintro e w2 ⟨val, rfl, ho, hb⟩
  obtain ⟨A2, cap2, rfl, -⟩ := own_form ho
  have HB2 := Lib.hid (HB1.out.trans (hb.mono HB1.out.size))
  have s1 := conv_bs (P := Try.prog) w2 22 9 5 Try.underlying22 Try.underlying5 Try.underlying9 (c := cap1) (l := l) rfl ((holds_own HO1.out).keep hb)
  have s2 := conv_bs (P := Try.prog) w2 22 9 5 Try.underlying22 Try.underlying5 Try.underlying9 (c := cap2) (l := l) rfl (holds_own ho)
  clear ho hb
  go_wp2_with (go_at_call 11; (with_reducible refine (known_any _).mono ?_); rintro e w5 ⟨rfl, b5⟩; have B5 := Lib.hid (HB2.out.trans (b5.mono HB2.out.size)); clear b5)
  go_ret
  exact ⟨rfl, B5.out⟩
end Go.Proofs.Ytcjmeiklfkiibaa

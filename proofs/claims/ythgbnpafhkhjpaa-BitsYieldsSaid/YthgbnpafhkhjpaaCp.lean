/- The copies of a writer and of a reader. A byte row of the call's own whose bytes are written to. Over any program. -/
import Derived.Test.YthgbnpafhkhjpaaPa3
import Derived.Deep.RegionHeld3
import Derived.Test.YthgbnpafhkhjpaaSz
namespace Go.Proofs.Ythgbnpafhkhjpaa
open Go.RowKit
set_option linter.unusedVariables false
set_option linter.unusedSimpArgs false

set_option maxRecDepth 100000 in
set_option maxHeartbeats 2000000 in
theorem wcopy_some (B g : Nat) (val : Value) (bs : List Bool) (w : World) (hw : WS w B g 63 [.bool true] val bs) (hm : bs.length ≤ 8388608) :
    Calls Try.prog 29 #[.pointer (some ⟨g, 0, none⟩)] w fun e w' => ∃ g' v', e = .returned (.pointer (some ⟨g', 0, none⟩)) ∧ w.heap.size ≤ g' ∧ WS w' w.heap.size g' 63 [.bool true] v' bs ∧ Below w.heap.size w w' := by
  obtain ⟨A, cap, rfl, -, -, h0, -⟩ := own_form hw.own
  have C36 := Lib.hid (wis_some g _ _ _ w hw.blk)
  have C38 := Lib.hid (clone_any A _ cap _ w.drew (by omega) (Holds.drew (holds_own hw.own)) (u8_one _) (fun h => (h0 h).2))
  have HG := Lib.hid hw.blk
  obtain ⟨m, hm2⟩ : ∃ m, bs.length = m := ⟨_, rfl⟩
  have HM := Lib.hid hm2
  rw [hm2] at C38 HG
  have hc0 := HG.out.cell 0
  have hc1 := HG.out.cell 1
  simp only [List.getElem?_toArray, List.getElem?_cons_zero, List.getElem?_cons_succ] at hc0 hc1
  clear hw hm h0 hm2
  go_enter Try.func29, Try.ntmps29
  go_wp2_with (first | (go_at_call 36; (with_reducible refine C36.out.mono ?_); rintro e w1 ⟨rfl, rfl⟩))
  go_region_held3 (fun W : World => W.cell? ⟨g, 0, none⟩ = some (.slice A ((m + 7) / 8) cap) ∧ W.cell? ⟨g, 1, none⟩ = some (.int .i64 m)) (first | exact ⟨hc0, hc1⟩ | exact ⟨cell_drew hc0, cell_drew hc1⟩ | exact ⟨hk0, hk1⟩ | exact ⟨cell_keep hk0 _, cell_keep hk1 _⟩)
    (first
      | (go_at_call 38; (with_reducible refine C38.out.mono ?_); rintro e w2 ⟨v2, rfl, ho, b2⟩; obtain ⟨A2, c2, rfl, -⟩ := own_form ho; have hg2 := HG.out.drew.below b2 HG.out.lt; have hk0 := hg2.cell 0; have hk1 := hg2.cell 1; simp only [List.getElem?_toArray, List.getElem?_cons_zero, List.getElem?_cons_succ] at hk0 hk1; have HO := Lib.hid ho; have HB := Lib.hid (show Below w.heap.size w w2 from (below_drew (Below.refl _ _)).trans b2); clear ho b2 hg2))
  all_goals
    go_wp2_with fail
    go_ret
    refine ⟨w2.heap.size, .slice A2 ((m + 7) / 8) c2, rfl, HB.out.size, ⟨?_, ?_, ?_⟩, HB.out.alloc HB.out.size _⟩
    · rw [HM.out]; exact Blk.new w2 63 _
    · rw [HM.out]; exact own_alloc HO.out
    · simp; have := HB.out.size; omega

set_option maxRecDepth 100000 in
set_option maxHeartbeats 2000000 in
theorem rcopy_some (B g : Nat) (v : Value) (l : List UInt8) (p : Nat) (w : World) (hr : RS w B g v l p) :
    Calls Try.prog 26 #[.pointer (some ⟨g, 0, none⟩)] w fun e w' => ∃ g' v', e = .returned (.pointer (some ⟨g', 0, none⟩)) ∧ w.heap.size ≤ g' ∧ RS w' w.heap.size g' v' l p ∧ Below w.heap.size w w' := by
  obtain ⟨A, cap, rfl, -, -, h0, -⟩ := own_form hr.own
  have hsm := hr.small
  have hpl := hr.place
  have C49 := Lib.hid (ris_some g _ _ _ _ w hr.blk)
  have C38 := Lib.hid (clone_any A _ cap _ w.drew (by omega) (Holds.drew (holds_own hr.own)) (u8_one _) (fun h => (h0 h).2))
  have HG := Lib.hid hr.blk
  obtain ⟨M, hM⟩ : ∃ M : Int, ((8 * l.length : Nat) : Int) = M := ⟨_, rfl⟩
  obtain ⟨n, hn⟩ : ∃ n, l.length = n := ⟨_, rfl⟩
  rw [hM] at HG
  rw [hn] at HG C38
  have HM := Lib.hid hM
  have HN := Lib.hid hn
  have HSM := Lib.hid hsm
  have HPL := Lib.hid hpl
  have hc0 := HG.out.cell 0
  have hc1 := HG.out.cell 1
  have hc2 := HG.out.cell 2
  simp only [List.getElem?_toArray, List.getElem?_cons_zero, List.getElem?_cons_succ] at hc0 hc1 hc2
  clear hr h0 hM hn hsm hpl
  go_enter Try.func26, Try.ntmps26
  go_wp2_with (first | (go_at_call 49; (with_reducible refine C49.out.mono ?_); rintro e w1 ⟨rfl, rfl⟩))
  go_region_held3 (fun W : World => W.cell? ⟨g, 0, none⟩ = some (.slice A n cap) ∧ W.cell? ⟨g, 1, none⟩ = some (.int .i64 M) ∧ W.cell? ⟨g, 2, none⟩ = some (.int .i64 p)) (first | exact ⟨hc0, hc1, hc2⟩ | exact ⟨cell_drew hc0, cell_drew hc1, cell_drew hc2⟩ | exact ⟨hk0, hk1, hk2⟩ | exact ⟨cell_keep hk0 _, cell_keep hk1 _, cell_keep hk2 _⟩)
    (first
      | (go_at_call 38; (with_reducible refine C38.out.mono ?_); rintro e w2 ⟨v2, rfl, ho, b2⟩; obtain ⟨A2, c2, rfl, -⟩ := own_form ho; have hg2 := HG.out.drew.below b2 HG.out.lt; have hk0 := hg2.cell 0; have hk1 := hg2.cell 1; have hk2 := hg2.cell 2; simp only [List.getElem?_toArray, List.getElem?_cons_zero, List.getElem?_cons_succ] at hk0 hk1 hk2; have HO := Lib.hid ho; have HB := Lib.hid (show Below w.heap.size w w2 from (below_drew (Below.refl _ _)).trans b2); clear ho b2 hg2))
  all_goals
    go_wp2_with fail
    go_ret
    refine ⟨w2.heap.size, .slice A2 n c2, rfl, HB.out.size, ⟨?_, ?_, ?_, HPL.out, HSM.out⟩, HB.out.alloc HB.out.size _⟩
    · rw [HM.out]; exact Blk.new w2 66 _
    · rw [HN.out]; exact own_alloc HO.out
    · simp; have := HB.out.size; omega
end Go.Proofs.Ythgbnpafhkhjpaa

namespace Go.Proofs.Ythgbnpafhkhjpaa
open Go.RowKit

/-- Some bytes. -/
def ByteRow (w : World) (B : Nat) (v : Value) (n : Nat) : Prop := ∃ L : List UInt8, L.length = n ∧ w.ownsRow B 5 1 v n (L.map u8)
theorem ByteRow.cell {w : World} {B n k : Nat} {v : Value} (h : ByteRow w B v n) (hk : k < n) : ∃ g cap x, v = .slice (some ⟨g, 0, none⟩) n cap ∧ w.cell? ⟨g, k, none⟩ = some (.int .u8 x) ∧ 0 ≤ x ∧ x < 256 ∧ w.frozen? ⟨g, k, none⟩ = false := by
  obtain ⟨L, hl, ho⟩ := h
  obtain ⟨g, cap, rfl, -, -, -, -, hcs⟩ := own_holds ho (by omega)
  have hkl : k < L.length := by omega
  have hc := hcs k (u8 L[k]) (by rw [List.getElem?_map, List.getElem?_eq_getElem hkl]; rfl)
  rw [Addr.add_lit, Nat.zero_add] at hc
  have := L[k].toNat_lt
  exact ⟨g, cap, _, rfl, hc, by omega, by omega, own_frozen ho⟩
theorem ByteRow.store {w : World} {B n k g cap : Nat} {z : Int} (h : ByteRow w B (.slice (some ⟨g, 0, none⟩) n cap) n) (h0 : 0 ≤ z) (h1 : z < 256) : ByteRow (w.setCell ⟨g, k, none⟩ (.int .u8 z)) B (.slice (some ⟨g, 0, none⟩) n cap) n := by
  obtain ⟨L, hl, ho⟩ := h
  refine ⟨L.set k (UInt8.ofNat z.toNat), by simpa using hl, ?_⟩
  have := own_store ho (k := k) (.int .u8 z)
  rw [List.map_set]
  have e : u8 (UInt8.ofNat z.toNat) = .int .u8 z := by
    unfold u8
    rw [UInt8.toNat_ofNat', Nat.mod_eq_of_lt (by omega), Int.toNat_of_nonneg h0]
  rw [e]
  exact this
theorem ByteRow.drew {w : World} {B n : Nat} {v : Value} (h : ByteRow w B v n) : ByteRow w.drew B v n := by
  obtain ⟨L, hl, ho⟩ := h
  exact ⟨L, hl, own_drew ho⟩
theorem ByteRow.of {w : World} {B n : Nat} {v : Value} {L : List UInt8} (h : w.ownsRow B 5 1 v n (L.map u8)) : ByteRow w B v n := ⟨L, by have := h.1; simpa using this, h⟩
theorem ByteRow.form {w : World} {B n : Nat} {v : Value} (h : ByteRow w B v n) : ∃ A cap, v = .slice A n cap := by
  obtain ⟨L, hl, ho⟩ := h
  obtain ⟨A, cap, e, -⟩ := own_form ho
  exact ⟨A, cap, e⟩
/-- What was done to the row alone is below the row's base. -/
theorem ByteRow.below {w w' : World} {B n : Nat} {v : Value} (h : ByteRow w B v n) (hB : B ≤ w.heap.size) (hg : w.grownBy w' v.ownBlock) : Below B w w' := by
  obtain ⟨L, hl, ho⟩ := h
  exact below_own ((Below.refl w.heap.size w).mono hB) hB ho hg
end Go.Proofs.Ythgbnpafhkhjpaa

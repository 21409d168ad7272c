/- The copies of a writer and of a reader. -/
import Derived.Test.YthgbnpafhkhjpaaPa3
import Derived.Deep.RegionHeld3
namespace Go.Proofs.Ythgbnpafhkhjpaa
open Go.RowKit
set_option linter.unusedVariables false
set_option linter.unusedSimpArgs false

set_option maxRecDepth 100000 in
set_option maxHeartbeats 2000000 in
theorem wcopy_some (B g : Nat) (val : Value) (bs : List Bool) (w : World) (hw : WS w B g 63 [.bool true] val bs) (hm : bs.length ≤ 8388608) :
    Calls Try.prog 29 #[.pointer (some ⟨g, 0, none⟩)] w fun e w' => ∃ g' v', e = .returned (.pointer (some ⟨g', 0, none⟩)) ∧ w.heap.size ≤ g' ∧ WS w' w.heap.size g' 63 [.bool true] v' bs ∧ Below w.heap.size w w' := by
  obtain ⟨A, cap, rfl, -, -, h0, -⟩ := own_form hw.own
  have C36 := Lib.hid (wis_some g _ _ _ w hw.blk)
  have C38 := Lib.hid (clone_any A _ cap _ w.drew (by omega) (Holds.drew (holds_own hw.own)) (u8_one _) (fun h => (h0 h).2))
  have HG := Lib.hid hw.blk
  obtain ⟨m, hm2⟩ : ∃ m, bs.length = m := ⟨_, rfl⟩
  have HM := Lib.hid hm2
  rw [hm2] at C38 HG
  have hc0 := HG.out.cell 0
  have hc1 := HG.out.cell 1
  simp only [List.getElem?_toArray, List.getElem?_cons_zero, List.getElem?_cons_succ] at hc0 hc1
  clear hw hm h0 hm2
  go_enter Try.func29, Try.ntmps29
  go_wp2_with (first | (go_at_call 36; (with_reducible refine C36.out.mono ?_); rintro e w1 ⟨rfl, rfl⟩))
  go_region_held3 (fun W : World => W.cell? ⟨g, 0, none⟩ = some (.slice A ((m + 7) / 8) cap) ∧ W.cell? ⟨g, 1, none⟩ = some (.int .i64 m)) (first | exact ⟨hc0, hc1⟩ | exact ⟨cell_drew hc0, cell_drew hc1⟩ | exact ⟨hk0, hk1⟩ | exact ⟨cell_keep hk0 _, cell_keep hk1 _⟩)
    (first
      | (go_at_call 38; (with_reducible refine C38.out.mono ?_); rintro e w2 ⟨v2, rfl, ho, b2⟩; obtain ⟨A2, c2, rfl, -⟩ := own_form ho; have hg2 := HG.out.drew.below b2 HG.out.lt; have hk0 := hg2.cell 0; have hk1 := hg2.cell 1; simp only [List.getElem?_toArray, List.getElem?_cons_zero, List.getElem?_cons_succ] at hk0 hk1; have HO := Lib.hid ho; have HB := Lib.hid (show Below w.heap.size w w2 from (below_drew (Below.refl _ _)).trans b2); clear ho b2 hg2))
  all_goals
    go_wp2_with fail
    go_ret
    refine ⟨w2.heap.size, .slice A2 ((m + 7) / 8) c2, rfl, HB.out.size, ⟨?_, ?_, ?_⟩, HB.out.alloc HB.out.size _⟩
    · rw [HM.out]; exact Blk.new w2 63 _
    · rw [HM.out]; exact own_alloc HO.out
    · simp; have := HB.out.size; omega

set_option maxRecDepth 100000 in
set_option maxHeartbeats 2000000 in
theorem rcopy_some (B g : Nat) (v : Value) (l : List UInt8) (p : Nat) (w : World) (hr : RS w B g v l p) :
    Calls Try.prog 26 #[.pointer (some ⟨g, 0, none⟩)] w fun e w' => ∃ g' v', e = .returned (.pointer (some ⟨g', 0, none⟩)) ∧ w.heap.size ≤ g' ∧ RS w' w.heap.size g' v' l p ∧ Below w.heap.size w w' := by
  obtain ⟨A, cap, rfl, -, -, h0, -⟩ := own_form hr.own
  have hsm := hr.small
  have hpl := hr.place
  have C49 := Lib.hid (ris_some g _ _ _ _ w hr.blk)
  have C38 := Lib.hid (clone_any A _ cap _ w.drew (by omega) (Holds.drew (holds_own hr.own)) (u8_one _) (fun h => (h0 h).2))
  have HG := Lib.hid hr.blk
  obtain ⟨M, hM⟩ : ∃ M : Int, ((8 * l.length : Nat) : Int) = M := ⟨_, rfl⟩
  obtain ⟨n, hn⟩ : ∃ n, l.length = n := ⟨_, rfl⟩
  rw [hM] at HG
  rw [hn] at HG C38
  have HM := Lib.hid hM
  have HN := Lib.hid hn
  have HSM := Lib.hid hsm
  have HPL := Lib.hid hpl
  have hc0 := HG.out.cell 0
  have hc1 := HG.out.cell 1
  have hc2 := HG.out.cell 2
  simp only [List.getElem?_toArray, List.getElem?_cons_zero, List.getElem?_cons_succ] at hc0 hc1 hc2
  clear hr h0 hM hn hsm hpl
  go_enter Try.func26, Try.ntmps26
  go_wp2_with (first | (go_at_call 49; (with_reducible refine C49.out.mono ?_); rintro e w1 ⟨rfl, rfl⟩))
  go_region_held3 (fun W : World => W.cell? ⟨g, 0, none⟩ = some (.slice A n cap) ∧ W.cell? ⟨g, 1, none⟩ = some (.int .i64 M) ∧ W.cell? ⟨g, 2, none⟩ = some (.int .i64 p)) (first | exact ⟨hc0, hc1, hc2⟩ | exact ⟨cell_drew hc0, cell_drew hc1, cell_drew hc2⟩ | exact ⟨hk0, hk1, hk2⟩ | exact ⟨cell_keep hk0 _, cell_keep hk1 _, cell_keep hk2 _⟩)
    (first
      | (go_at_call 38; (with_reducible refine C38.out.mono ?_); rintro e w2 ⟨v2, rfl, ho, b2⟩; obtain ⟨A2, c2, rfl, -⟩ := own_form ho; have hg2 := HG.out.drew.below b2 HG.out.lt; have hk0 := hg2.cell 0; have hk1 := hg2.cell 1; have hk2 := hg2.cell 2; simp only [List.getElem?_toArray, List.getElem?_cons_zero, List.getElem?_cons_succ] at hk0 hk1 hk2; have HO := Lib.hid ho; have HB := Lib.hid (show Below w.heap.size w w2 from (below_drew (Below.refl _ _)).trans b2); clear ho b2 hg2))
  all_goals
    go_wp2_with fail
    go_ret
    refine ⟨w2.heap.size, .slice A2 n c2, rfl, HB.out.size, ⟨?_, ?_, ?_, HPL.out, HSM.out⟩, HB.out.alloc HB.out.size _⟩
    · rw [HM.out]; exact Blk.new w2 66 _
    · rw [HN.out]; exact own_alloc HO.out
    · simp; have := HB.out.size; omega
end Go.Proofs.Ythgbnpafhkhjpaa

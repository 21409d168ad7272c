/- Copy. -/
import Derived.Test.YtgbkoegmoelheaaCo
namespace Go.Proofs.Ytgbkoegmoelheaa
open Go.RowKit
set_option linter.unusedVariables false
set_option linter.unusedSimpArgs false

def ThC (g : Nat) (vb vl : Value) (last : Int) (W : World) : Prop := W.cell? ⟨g, 0, none⟩ = some vb ∧ W.cell? ⟨g, 1, none⟩ = some vl ∧ W.cell? ⟨g, 2, none⟩ = some (.int .i64 last)
theorem ThC.below {g : Nat} {vb vl : Value} {last : Int} {W W' : World} (h : ThC g vb vl last W) (hb : Below W.heap.size W W') : ThC g vb vl last W' := ⟨cell_below h.1 hb, cell_below h.2.1 hb, cell_below h.2.2 hb⟩
set_option maxRecDepth 100000 in
theorem copyw_nil (w : World) : Calls Try.prog 27 #[.pointer none] w fun e w' => e = .returned (.pointer none) ∧ Below w.heap.size w w' := by
  go_enter Try.func27, Try.ntmps27
  go_wp2_with fail
  go_ret
  exact ⟨rfl, Below.refl _ _⟩
/-- What Copy leaves. -/
def CopyR (w w' : World) (B g2 : Nat) (ds : List Pd) (s : StP) : Prop := ∃ vb2 vl2, WS w' B g2 vb2 vl2 ds s ∧ Below w.heap.size w w' ∧ (∀ k, WF g2 vb2 k → w.heap.size ≤ k) ∧ ∀ k, vl2.ownBlock = some k → w.heap.size ≤ k

set_option maxRecDepth 100000 in
set_option maxHeartbeats 4000000 in
theorem copyw_any (w : World) (B g : Nat) (vb vl : Value) (ds : List Pd) (s : StP) (h : WS w B g vb vl ds s) (hl : s.b.length ≤ 2000000) :
    Calls Try.prog 27 #[.pointer (some ⟨g, 0, none⟩)] w fun e w' => ∃ g2, e = .returned (.pointer (some ⟨g2, 0, none⟩)) ∧ CopyR w w' B g2 ds s := by
  have H := Lib.hid h
  obtain ⟨A, c, hvl⟩ := h.po.form
  obtain ⟨n, hn⟩ : ∃ n, ds.length = n := ⟨_, rfl⟩
  rw [hn] at hvl
  subst hvl
  obtain ⟨Ab, cb, rfl, hr⟩ := own_RB h.own
  have C49 := clone_any Ab s.b.length cb s.b w.drew hl (hr.below (below_drew (Below.refl _ w)))
  obtain ⟨nb, hnb⟩ : ∃ nb, s.b.length = nb := ⟨_, rfl⟩
  obtain ⟨last, hlast⟩ : ∃ last, s.last = last := ⟨_, rfl⟩
  have hbk := h.blk
  rw [hnb] at C49 hbk
  rw [hlast] at hbk
  have C49 := Lib.hid C49
  have HBL := Lib.hid hnb
  have HDL := Lib.hid hn
  have HLA := Lib.hid hlast
  have C50 := Lib.hid (fun (W : World) (hb : Below w.heap.size w W) => clonep_any A n c ds W (h.po.pl.below hb) (by have := h.n64; omega))
  have HTC : Hid (ThC g (.slice Ab nb cb) (.slice A n c) last w.drew) := Lib.hid (by
    have k0 := hbk.cell 0
    have k1 := hbk.cell 1
    have k2 := hbk.cell 2
    simp at k0 k1 k2
    exact ⟨k0, k1, k2⟩)
  clear h hl hn hr hnb hbk hlast
  go_enter Try.func27, Try.ntmps27
  go_upto_region 3 with fail
  refine wp_region_G (S0 := (ThC g (.slice Ab nb cb) (.slice A n c) last)) (S1 := (ThC g (.slice Ab nb cb) (.slice A n c) last)) (c := 99) (by kernel_rfl) ?_
  have hHeld := HTC.out
  have h01 := (fun (W : World) (h : (ThC g (.slice Ab nb cb) (.slice A n c) last) W) => h)
  refine wpG_takeB (i := 0) (oi := ⟨some 5, _, _, _, _, _⟩) (v := .pointer (some ⟨g, 0, none⟩)) rfl (by kernel_rfl) (by kernel_rfl) (by kernel_rfl) (by decide) (fun _ _ _ h => h) h01 rfl hHeld (Or.inl ⟨by rfl, ?_⟩) ?_
  · (intro W9 hSw; obtain ⟨v1, v2, v3⟩ := hSw; go_simp; (try (first | with_reducible rfl | rfl | (simp; done))))
  try simp only [Act.put, List.setIfInBounds_toArray, List.set_cons_zero, List.set_cons_succ]
  refine wpG_takeB (i := 1) (oi := ⟨some 6, _, _, _, _, _⟩) (v := .pointer (some ⟨g, 0, none⟩)) rfl (by kernel_rfl) (by kernel_rfl) (by kernel_rfl) (by decide) (fun _ _ _ h => h) h01 rfl hHeld (Or.inl ⟨by rfl, ?_⟩) ?_
  · (intro W9 hSw; obtain ⟨v1, v2, v3⟩ := hSw; go_simp; (try (first | with_reducible rfl | rfl | (simp; done))))
  try simp only [Act.put, List.setIfInBounds_toArray, List.set_cons_zero, List.set_cons_succ]
  refine wpG_takeB (i := 2) (oi := ⟨some 7, _, _, _, _, _⟩) (v := .pointer (some ⟨g, 0, none⟩)) rfl (by kernel_rfl) (by kernel_rfl) (by kernel_rfl) (by decide) (fun _ _ _ h => h) h01 rfl hHeld (Or.inl ⟨by rfl, ?_⟩) ?_
  · (intro W9 hSw; obtain ⟨v1, v2, v3⟩ := hSw; go_simp; (try (first | with_reducible rfl | rfl | (simp; done))))
  try simp only [Act.put, List.setIfInBounds_toArray, List.set_cons_zero, List.set_cons_succ]
  refine wpG_takeB (i := 3) (oi := ⟨some 8, _, _, _, _, _⟩) (v := .pointer (some ⟨g, 0, none⟩)) rfl (by kernel_rfl) (by kernel_rfl) (by kernel_rfl) (by decide) (fun _ _ _ h => h) h01 rfl hHeld (Or.inl ⟨by rfl, ?_⟩) ?_
  · (intro W9 hSw; obtain ⟨v1, v2, v3⟩ := hSw; go_simp; (try (first | with_reducible rfl | rfl | (simp; done))))
  try simp only [Act.put, List.setIfInBounds_toArray, List.set_cons_zero, List.set_cons_succ]
  refine wpG_takeB (i := 4) (oi := ⟨some 9, _, _, _, _, _⟩) (v := .slice Ab nb cb) rfl (by kernel_rfl) (by kernel_rfl) (by kernel_rfl) (by decide) (fun _ _ _ h => h) h01 rfl hHeld (Or.inl ⟨by rfl, ?_⟩) ?_
  · (intro W9 hSw; obtain ⟨v1, v2, v3⟩ := hSw; go_simp; (try (first | with_reducible rfl | rfl | (simp; done))))
  try simp only [Act.put, List.setIfInBounds_toArray, List.set_cons_zero, List.set_cons_succ]
  refine wpG_takeB (i := 7) (oi := ⟨some 12, _, _, _, _, _⟩) (v := .pointer (some ⟨g, 0, none⟩)) rfl (by kernel_rfl) (by kernel_rfl) (by kernel_rfl) (by decide) (fun _ _ _ h => h) h01 rfl hHeld (Or.inl ⟨by rfl, ?_⟩) ?_
  · (intro W9 hSw; obtain ⟨v1, v2, v3⟩ := hSw; go_simp; (try (first | with_reducible rfl | rfl | (simp; done))))
  try simp only [Act.put, List.setIfInBounds_toArray, List.set_cons_zero, List.set_cons_succ]
  refine wpG_takeB (i := 8) (oi := ⟨some 13, _, _, _, _, _⟩) (v := .pointer (some ⟨g, 0, none⟩)) rfl (by kernel_rfl) (by kernel_rfl) (by kernel_rfl) (by decide) (fun _ _ _ h => h) h01 rfl hHeld (Or.inl ⟨by rfl, ?_⟩) ?_
  · (intro W9 hSw; obtain ⟨v1, v2, v3⟩ := hSw; go_simp; (try (first | with_reducible rfl | rfl | (simp; done))))
  try simp only [Act.put, List.setIfInBounds_toArray, List.set_cons_zero, List.set_cons_succ]
  refine wpG_takeB (i := 9) (oi := ⟨some 14, _, _, _, _, _⟩) (v := .pointer (some ⟨g, 1, none⟩)) rfl (by kernel_rfl) (by kernel_rfl) (by kernel_rfl) (by decide) (fun _ _ _ h => h) h01 rfl hHeld (Or.inl ⟨by rfl, ?_⟩) ?_
  · (intro W9 hSw; obtain ⟨v1, v2, v3⟩ := hSw; go_simp; (try (first | with_reducible rfl | rfl | (simp; done))))
  try simp only [Act.put, List.setIfInBounds_toArray, List.set_cons_zero, List.set_cons_succ]
  refine wpG_takeB (i := 10) (oi := ⟨some 15, _, _, _, _, _⟩) (v := .slice A n c) rfl (by kernel_rfl) (by kernel_rfl) (by kernel_rfl) (by decide) (fun _ _ _ h => h) h01 rfl hHeld (Or.inl ⟨by rfl, ?_⟩) ?_
  · (intro W9 hSw; obtain ⟨v1, v2, v3⟩ := hSw; go_simp; (try (first | with_reducible rfl | rfl | (simp; done))))
  try simp only [Act.put, List.setIfInBounds_toArray, List.set_cons_zero, List.set_cons_succ]
  refine wpG_takeB (i := 12) (oi := ⟨some 17, _, _, _, _, _⟩) (v := .pointer (some ⟨g, 0, none⟩)) rfl (by kernel_rfl) (by kernel_rfl) (by kernel_rfl) (by decide) (fun _ _ _ h => h) h01 rfl hHeld (Or.inl ⟨by rfl, ?_⟩) ?_
  · (intro W9 hSw; obtain ⟨v1, v2, v3⟩ := hSw; go_simp; (try (first | with_reducible rfl | rfl | (simp; done))))
  try simp only [Act.put, List.setIfInBounds_toArray, List.set_cons_zero, List.set_cons_succ]
  refine wpG_takeB (i := 13) (oi := ⟨some 18, _, _, _, _, _⟩) (v := .pointer (some ⟨g, 0, none⟩)) rfl (by kernel_rfl) (by kernel_rfl) (by kernel_rfl) (by decide) (fun _ _ _ h => h) h01 rfl hHeld (Or.inl ⟨by rfl, ?_⟩) ?_
  · (intro W9 hSw; obtain ⟨v1, v2, v3⟩ := hSw; go_simp; (try (first | with_reducible rfl | rfl | (simp; done))))
  try simp only [Act.put, List.setIfInBounds_toArray, List.set_cons_zero, List.set_cons_succ]
  refine wpG_takeB (i := 14) (oi := ⟨some 19, _, _, _, _, _⟩) (v := .pointer (some ⟨g, 2, none⟩)) rfl (by kernel_rfl) (by kernel_rfl) (by kernel_rfl) (by decide) (fun _ _ _ h => h) h01 rfl hHeld (Or.inl ⟨by rfl, ?_⟩) ?_
  · (intro W9 hSw; obtain ⟨v1, v2, v3⟩ := hSw; go_simp; (try (first | with_reducible rfl | rfl | (simp; done))))
  try simp only [Act.put, List.setIfInBounds_toArray, List.set_cons_zero, List.set_cons_succ]
  refine wpG_takeB (i := 15) (oi := ⟨some 20, _, _, _, _, _⟩) (v := .int .i64 last) rfl (by kernel_rfl) (by kernel_rfl) (by kernel_rfl) (by decide) (fun _ _ _ h => h) h01 rfl hHeld (Or.inl ⟨by rfl, ?_⟩) ?_
  · (intro W9 hSw; obtain ⟨v1, v2, v3⟩ := hSw; go_simp; (try (first | with_reducible rfl | rfl | (simp; done))))
  try simp only [Act.put, List.setIfInBounds_toArray, List.set_cons_zero, List.set_cons_succ]
  refine wpG_oneB (i := 5) (o := ⟨some 10, _, _, _, _, _⟩) (by kernel_rfl) rfl rfl (fun K hK => ?_)
  go_simp
  (with_reducible refine C49.out.mono ?_); rintro e w5 ⟨v5, rfl, o5, b5⟩
  rw [HBL.out] at o5
  obtain ⟨A5, c5, rfl, -⟩ := own_form o5
  have HO5 := Lib.hid o5
  have HB5 := Lib.hid (show Below w.heap.size w w5 from below_drew0 b5)
  refine hK.out _ _ (ThC.below hHeld b5) (fun hHeld => ?_)
  clear o5 b5
  clear hK K
  try simp only [Act.put, List.setIfInBounds_toArray, List.set_cons_zero, List.set_cons_succ]
  refine wpG_takeB (i := 6) (oi := ⟨some 11, _, _, _, _, _⟩) (v := .agg #[.slice A5 nb c5]) rfl (by kernel_rfl) (by kernel_rfl) (by kernel_rfl) (by decide) (fun _ _ _ h => h) h01 rfl hHeld (Or.inl ⟨by rfl, ?_⟩) ?_
  · (intro W9 hSw; obtain ⟨v1, v2, v3⟩ := hSw; go_simp; (try (first | with_reducible rfl | rfl | (simp; done))))
  try simp only [Act.put, List.setIfInBounds_toArray, List.set_cons_zero, List.set_cons_succ]
  refine wpG_oneB (i := 11) (o := ⟨some 16, _, _, _, _, _⟩) (by kernel_rfl) rfl rfl (fun K hK => ?_)
  go_simp
  (with_reducible refine (C50.out _ HB5.out).mono ?_); rintro e w6 ⟨v6, rfl, o6, b6⟩
  rw [HDL.out] at o6
  obtain ⟨A6, c6, rfl, -⟩ := own_formS o6
  have HO6 := Lib.hid o6
  have HB6 := Lib.hid b6
  refine hK.out _ _ (ThC.below hHeld b6) (fun hHeld => ?_)
  clear o6 b6
  clear hK K
  try simp only [Act.put, List.setIfInBounds_toArray, List.set_cons_zero, List.set_cons_succ]
  refine wpG_takeB (i := 16) (oi := ⟨some 21, _, _, _, _, _⟩) (v := .agg #[.slice A5 nb c5, .slice A6 n c6, .int .i64 last]) rfl (by kernel_rfl) (by kernel_rfl) (by kernel_rfl) (by decide) (fun _ _ _ h => h) h01 rfl hHeld (Or.inl ⟨by rfl, ?_⟩) ?_
  · (intro W9 hSw; obtain ⟨v1, v2, v3⟩ := hSw; go_simp; (try (first | with_reducible rfl | rfl | (simp; done))))
  try simp only [Act.put, List.setIfInBounds_toArray, List.set_cons_zero, List.set_cons_succ]
  refine wpG_oneB (i := 17) (o := ⟨some 22, _, _, _, _, _⟩) (by kernel_rfl) rfl rfl (fun K hK => ?_)
  go_simp
  have HB7 := Lib.hid (show Below w6.heap.size w6 (w6.alloc (.cells #[.slice A5 nb c5, .slice A6 n c6, .int .i64 last] 46)) from (Below.refl w6.heap.size w6).alloc (Nat.le_refl _) _)
  refine hK.out _ _ (ThC.below hHeld HB7.out) (fun hHeld => ?_)
  clear hK K
  try simp only [Act.put, List.setIfInBounds_toArray, List.set_cons_zero, List.set_cons_succ]
  refine wpG_takeB (i := 18) (oi := ⟨some 2, _, _, _, _, _⟩) (v := .pointer (some ⟨w6.heap.size, 0, none⟩)) rfl (by kernel_rfl) (by kernel_rfl) (by kernel_rfl) (by decide) (fun _ _ _ h => h) h01 rfl hHeld (Or.inl ⟨by rfl, ?_⟩) ?_
  · (intro W9 hSw; obtain ⟨v1, v2, v3⟩ := hSw; go_simp; (try (first | with_reducible rfl | rfl | (simp; done))))
  try simp only [Act.put, List.setIfInBounds_toArray, List.set_cons_zero, List.set_cons_succ]
  refine wpG_done (by kernel_rfl) ?_ _
  clear hHeld h01
  go_wp2_with fail
  go_ret
  have h := H.out
  have hb6 : Below w.heap.size w w6 := HB5.out.trans (HB6.out.mono HB5.out.size)
  have hb7 := hb6.trans (HB7.out.mono hb6.size)
  have hBw : B ≤ w.heap.size := h.base
  have h5 : w.heap.size ≤ w5.heap.size := HB5.out.size
  have o5 := HO5.out
  have o6 := HO6.out
  have hd : w.drew.heap.size = w.heap.size := rfl
  rw [hd] at o5
  refine ⟨w6.heap.size, rfl, .slice A5 nb c5, .slice A6 n c6, ⟨?_, ?_, ⟨?_, fun q hq => ?_, h.po.rng⟩, h.eq, Nat.le_trans hBw hb7.size, Nat.le_trans hBw hb6.size, fun q hq j hj e => ?_, h.ok⟩, hb7, fun k hk => ?_, fun k hk => (Nat.le_trans h5 (o6.lt k hk).1)⟩
  · rw [HLA.out]; exact Blk.new w6 46 _
  · rw [HBL.out]; exact own_base (own_alloc (own_keeps o5 fun k hk => HB6.out.block k (own_lt o5 k hk))) hBw
  · rw [HDL.out]; exact own_base (own_alloc o6) (Nat.le_trans hBw h5)
  · exact own_keeps (h.po.data q hq) fun k hk => hb7.block k (own_lt (h.po.data q hq) k hk)
  · have h1 := (o5.lt j hj).1
    have h2 := own_lt (h.po.data q hq) j e
    omega
  · rcases hk with rfl | hk
    · exact hb6.size
    · exact (o5.lt k hk).1
end Go.Proofs.Ytgbkoegmoelheaa

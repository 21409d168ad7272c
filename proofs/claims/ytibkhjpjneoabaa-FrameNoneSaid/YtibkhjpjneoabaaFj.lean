/- delimited$1: a damaged frame. -/
import Derived.Test.YtibkhjpjneoabaaFi
namespace Go.Proofs.Ytibkhjpjneoabaa
open Go.RowKit
set_option linter.unusedVariables false
set_option linter.unusedSimpArgs false

/-- The cells that a damage reads. -/
def DmR (br r : Nat) (a : Nat) (W : World) : Prop := W.cell? ⟨br, 0, none⟩ = some (.pointer (some ⟨r, 0, none⟩)) ∧ W.cell? ⟨r, 5, none⟩ = some (.int .i64 (a : Int))

set_option maxRecDepth 100000 in
set_option maxHeartbeats 2000000 in
theorem damaged_any (B r bc br : Nat) (k m c : Int) (v : Value) (s : St) (x : UInt8) (code : Int) (w : World) (hs : RdS w B r k m c v s) (hc : Blk w bc 5 #[Go.Proofs.Ytibkhjpjneoabaa.u8 x]) (hg : Blk w br 37 #[.pointer (some ⟨r, 0, none⟩)]) :
    Calls Try.prog 51 #[.int .i64 code, .pointer (some ⟨bc, 0, none⟩), .pointer (some ⟨br, 0, none⟩)] w (Stepped w B r k m c v (damS s x code)) := by
  obtain ⟨W0, hW0⟩ : ∃ W0, w.alloc (.cells #[.int .i64 0, .slice none 0 0, .int .i64 0] 44) = W0 := ⟨_, rfl⟩
  have hb0 : Below w.heap.size w W0 := hW0 ▸ (Below.refl _ w).alloc (Nat.le_refl _) _
  obtain ⟨bx, hbx⟩ : ∃ bx, w.heap.size = bx := ⟨_, rfl⟩
  have kx : Blk W0 bx 44 #[.int .i64 0, .slice none 0 0, .int .i64 0] := hbx ▸ hW0 ▸ Blk.new w 44 _
  obtain ⟨xi, hxi⟩ : ∃ xi : Int, (x.toNat : Int) = xi := ⟨_, rfl⟩
  have H0 := Lib.hid (hs.below hb0)
  have HC0 := Lib.hid (hc.below hb0 hc.lt)
  have HG0 := Lib.hid (hg.below hb0 hg.lt)
  have HB0 := Lib.hid hb0
  have HW0 := Lib.hid hW0
  have HBXE := Lib.hid hbx
  have HX0 := Lib.hid kx
  have HXI := Lib.hid hxi
  have HNE := Lib.hid (H0.out.blk.ne kx (by decide))
  have HNG := Lib.hid (H0.out.blk.ne HG0.out (by decide))
  have kc : W0.cell? ⟨bc, 0, none⟩ = some (.int .u8 xi) := by rw [← hxi]; exact HC0.out.cell 0
  have kg : W0.cell? ⟨br, 0, none⟩ = some (.pointer (some ⟨r, 0, none⟩)) := HG0.out.cell 0
  have k3 : W0.cell? ⟨r, 3, none⟩ = some (.int .i64 s.st) := H0.out.blk.cell 3
  have z3 := H0.out.blk.frozen 3
  clear hs hc hg hb0 hW0 kx hxi
  go_enter Try.func51, Try.ntmps51
  go_upto_region 1 with fail
  rw [HW0.out]
  clear HW0 hbx
  by_cases h6 : x = 126
  · have q : (xi != 126) = false := by subst h6; rw [← HXI.out]; rfl
    have HP := Lib.hid (show damS s x code = (s.ended, some ⟨s.at_, [], code⟩) by unfold damS; rw [if_pos h6])
    clear h6
    go_upto_region 3 with fail
    have HR2 := H0
    have HX2 := HX0
    have HG2 := HG0
    have HON2 := Lib.hid (Only.of_below (p := SFo r v) HB0.out)
    have HS3 := Lib.hid (show DmR br r s.at_ W0.drew from ⟨HG2.out.cell 0, HR2.out.blk.cell 5⟩)
    clear q kc kg k3 z3
    refine wp_region_G (S0 := (DmR br r s.at_)) (S1 := (fun _ => True)) (c := 10) (by kernel_rfl) ?_
    have hHeld := HS3.out
    have h01 := (fun (W : World) (h : (DmR br r s.at_) W) => trivial)
    refine wpG_take0 (i := 0) (oi := ⟨some 11, _, _, _, _, _⟩) (v := .pointer (some ⟨r, 0, none⟩)) rfl (by kernel_rfl) (by kernel_rfl) (by kernel_rfl) (by decide) (by kernel_rfl) (fun _ _ _ h => h) rfl hHeld (Or.inl ⟨by rfl, ?_⟩) ?_
    · (intro W9 hSw; obtain ⟨v1, v2⟩ := hSw; go_simp; (try (first | with_reducible rfl | rfl)))
    try simp only [Act.put, List.setIfInBounds_toArray, List.set_cons_zero, List.set_cons_succ]
    refine wpG_take0 (i := 1) (oi := ⟨some 12, _, _, _, _, _⟩) (v := .pointer (some ⟨r, 0, none⟩)) rfl (by kernel_rfl) (by kernel_rfl) (by kernel_rfl) (by decide) (by kernel_rfl) (fun _ _ _ h => h) rfl hHeld (Or.inl ⟨by rfl, ?_⟩) ?_
    · (intro W9 hSw; obtain ⟨v1, v2⟩ := hSw; go_simp; (try (first | with_reducible rfl | rfl)))
    try simp only [Act.put, List.setIfInBounds_toArray, List.set_cons_zero, List.set_cons_succ]
    refine wpG_take0 (i := 2) (oi := ⟨some 13, _, _, _, _, _⟩) (v := .pointer (some ⟨r, 0, none⟩)) rfl (by kernel_rfl) (by kernel_rfl) (by kernel_rfl) (by decide) (by kernel_rfl) (fun _ _ _ h => h) rfl hHeld (Or.inl ⟨by rfl, ?_⟩) ?_
    · (intro W9 hSw; obtain ⟨v1, v2⟩ := hSw; go_simp; (try (first | with_reducible rfl | rfl)))
    try simp only [Act.put, List.setIfInBounds_toArray, List.set_cons_zero, List.set_cons_succ]
    refine wpG_take0 (i := 3) (oi := ⟨some 14, _, _, _, _, _⟩) (v := .pointer (some ⟨r, 5, none⟩)) rfl (by kernel_rfl) (by kernel_rfl) (by kernel_rfl) (by decide) (by kernel_rfl) (fun _ _ _ h => h) rfl hHeld (Or.inl ⟨by rfl, ?_⟩) ?_
    · (intro W9 hSw; obtain ⟨v1, v2⟩ := hSw; go_simp; (try (first | with_reducible rfl | rfl)))
    try simp only [Act.put, List.setIfInBounds_toArray, List.set_cons_zero, List.set_cons_succ]
    refine wpG_take0 (i := 4) (oi := ⟨some 15, _, _, _, _, _⟩) (v := .int .i64 (s.at_ : Int)) rfl (by kernel_rfl) (by kernel_rfl) (by kernel_rfl) (by decide) (by kernel_rfl) (fun _ _ _ h => h) rfl hHeld (Or.inl ⟨by rfl, ?_⟩) ?_
    · (intro W9 hSw; obtain ⟨v1, v2⟩ := hSw; go_simp; (try (first | with_reducible rfl | rfl)))
    try simp only [Act.put, List.setIfInBounds_toArray, List.set_cons_zero, List.set_cons_succ]
    refine wpG_take0 (i := 5) (oi := ⟨some 16, _, _, _, _, _⟩) (v := .int .i64 code) rfl (by kernel_rfl) (by kernel_rfl) (by kernel_rfl) (by decide) (by kernel_rfl) (fun _ _ _ h => h) rfl hHeld (Or.inl ⟨by rfl, ?_⟩) ?_
    · (intro W9 hSw; obtain ⟨v1, v2⟩ := hSw; go_simp; (try (first | with_reducible rfl | rfl)))
    try simp only [Act.put, List.setIfInBounds_toArray, List.set_cons_zero, List.set_cons_succ]
    refine wpG_take0 (i := 6) (oi := ⟨some 17, _, _, _, _, _⟩) (v := .agg #[.int .i64 (s.at_ : Int), .slice none 0 0, .int .i64 code]) rfl (by kernel_rfl) (by kernel_rfl) (by kernel_rfl) (by decide) (by kernel_rfl) (fun _ _ _ h => h) rfl hHeld (Or.inl ⟨by rfl, ?_⟩) ?_
    · (intro W9 hSw; obtain ⟨v1, v2⟩ := hSw; go_simp; (try (first | with_reducible rfl | rfl)))
    try simp only [Act.put, List.setIfInBounds_toArray, List.set_cons_zero, List.set_cons_succ]
    refine wpG_oneA (i := 7) (o := ⟨some 18, _, _, _, _, _⟩) (by kernel_rfl) rfl rfl (fun K hK => ?_)
    go_simp
    (with_reducible refine (ended_any B r k m c v s s.at_ code none 0 0 W0.drew (HR2.out.below (below_drew (Below.refl _ _)))).mono ?_); rintro e w8 ⟨rfl, h8, o8⟩
    have H8 := Lib.hid h8
    have O8 := Lib.hid (Only.trans (Only.of_below (p := fun q => q = r) (below_drew (Below.refl _ W0))) o8 fun b hb e => e)
    have B8 := Lib.hid (HX2.out.only O8.out (fun e => HNE.out e.symm))
    have G8 := Lib.hid (HG2.out.only O8.out (fun e => HNG.out e.symm))
    clear h8 o8
    refine hK.out _ _ ⟨G8.out.cell 0, H8.out.blk.cell 5⟩ (fun hHeld => ?_)
    clear hK K
    try simp only [Act.put, List.setIfInBounds_toArray, List.set_cons_zero, List.set_cons_succ]
    refine wpG_takeA (i := 8) (oi := ⟨some 19, _, _, _, _, _⟩) (v := .agg #[.int .i64 (s.at_ : Int), .slice none 0 0, .int .i64 code]) rfl (by kernel_rfl) (by kernel_rfl) (by kernel_rfl) (by decide) (fun _ _ _ h => h) h01 rfl hHeld (Or.inl ⟨by rfl, ?_⟩) ?_
    · (intro W9 hSw; go_simp; (try (first | with_reducible rfl | rfl)))
    try simp only [Act.put, List.setIfInBounds_toArray, List.set_cons_zero, List.set_cons_succ]
    refine wpG_takeA (i := 9) (oi := ⟨some 20, _, _, _, _, _⟩) (v := .bool true) rfl (by kernel_rfl) (by kernel_rfl) (by kernel_rfl) (by decide) (fun _ _ _ h => h) h01 rfl hHeld (Or.inl ⟨by rfl, ?_⟩) ?_
    · (intro W9 hSw; go_simp; (try (first | with_reducible rfl | rfl)))
    try simp only [Act.put, List.setIfInBounds_toArray, List.set_cons_zero, List.set_cons_succ]
    refine wpG_oneB (i := 10) (o := ⟨none, _, _, _, _, _⟩) (by kernel_rfl) rfl rfl (fun K hK => ?_)
    obtain ⟨g0, g1, g2⟩ : w8.cell? ⟨bx, 0, none⟩ = some (.int .i64 0) ∧ w8.cell? ⟨bx, 1, none⟩ = some (.slice none 0 0) ∧ w8.cell? ⟨bx, 2, none⟩ = some (.int .i64 0) := ⟨B8.out.cell 0, B8.out.cell 1, B8.out.cell 2⟩
    have y0 := B8.out.frozen 0
    have y1 := B8.out.frozen 1
    have y2 := B8.out.frozen 2
    go_simp
    refine hK.out _ _ trivial (fun hHeld => ?_)
    clear hK K
    try simp only [Act.put, List.setIfInBounds_toArray, List.set_cons_zero, List.set_cons_succ]
    refine wpG_takeB (i := 11) (oi := ⟨some 5, _, _, _, _, _⟩) (v := .bool true) rfl (by kernel_rfl) (by kernel_rfl) (by kernel_rfl) (by decide) (fun _ _ _ h => h) h01 rfl hHeld (Or.inl ⟨by rfl, ?_⟩) ?_
    · (intro W9 hSw; go_simp; (try (first | with_reducible rfl | rfl)))
    try simp only [Act.put, List.setIfInBounds_toArray, List.set_cons_zero, List.set_cons_succ]
    refine wpG_done (by kernel_rfl) ?_ _
    clear hHeld h01
    go_wp2_with fail
    refine bodyPost_ret (v := .tuple #[.agg #[.int .i64 (s.at_ : Int), .slice none 0 0, .int .i64 code], .bool true]) (fr_res rfl rfl rfl (blk_set3 B8.out)) rfl ?_
    rw [HP.out]
    exact ⟨⟨none, 0, 0, rfl, World.ownsRow_nil _ _ 5 1⟩, .slice none 0 0, (H8.out.box B8.out), only_set3 (HON2.out.trans (O8.out.mono (q := SFo r v) fun b _ e => .inl e) fun b _ x => x) (Nat.le_of_eq HBXE.out), .inr fun _ e => by cases e⟩
  · have q : (xi != 126) = true := by
      rw [← HXI.out]
      simp
      intro e
      exact h6 (UInt8.toNat_inj.1 (by show x.toNat = 126; omega))
    have HP := Lib.hid (show damS s x code = (St.ended { s with st := 1 }, some ⟨s.at_, [], code⟩) by unfold damS; rw [if_neg h6])
    clear h6
    go_upto_region 3 with fail
    obtain ⟨w2, hw2⟩ : ∃ w2, W0.setCell ⟨r, 3, none⟩ (.int .i64 1) = w2 := ⟨_, rfl⟩
    have HR2 := Lib.hid (show RdS w2 B r k m c v { s with st := 1 } from hw2 ▸ H0.out.set_st 1)
    have HX2 := Lib.hid (show Blk w2 bx 44 #[.int .i64 0, .slice none 0 0, .int .i64 0] from hw2 ▸ HX0.out.far (by simpa using fun e => HNE.out e.symm) _)
    have HG2 := Lib.hid (show Blk w2 br 37 #[.pointer (some ⟨r, 0, none⟩)] from hw2 ▸ HG0.out.far (by simpa using fun e => HNG.out e.symm) _)
    have HON2 := Lib.hid (show Only (SFo r v) w w2 from hw2 ▸ (Only.of_below (p := SFo r v) HB0.out).set (fun _ => .inl rfl) 3 _)
    have HS3 := Lib.hid (show DmR br r s.at_ w2.drew from ⟨HG2.out.cell 0, HR2.out.blk.cell 5⟩)
    rw [hw2]
    clear hw2 q kc kg k3 z3
    refine wp_region_G (S0 := (DmR br r s.at_)) (S1 := (fun _ => True)) (c := 10) (by kernel_rfl) ?_
    have hHeld := HS3.out
    have h01 := (fun (W : World) (h : (DmR br r s.at_) W) => trivial)
    refine wpG_take0 (i := 0) (oi := ⟨some 11, _, _, _, _, _⟩) (v := .pointer (some ⟨r, 0, none⟩)) rfl (by kernel_rfl) (by kernel_rfl) (by kernel_rfl) (by decide) (by kernel_rfl) (fun _ _ _ h => h) rfl hHeld (Or.inl ⟨by rfl, ?_⟩) ?_
    · (intro W9 hSw; obtain ⟨v1, v2⟩ := hSw; go_simp; (try (first | with_reducible rfl | rfl)))
    try simp only [Act.put, List.setIfInBounds_toArray, List.set_cons_zero, List.set_cons_succ]
    refine wpG_take0 (i := 1) (oi := ⟨some 12, _, _, _, _, _⟩) (v := .pointer (some ⟨r, 0, none⟩)) rfl (by kernel_rfl) (by kernel_rfl) (by kernel_rfl) (by decide) (by kernel_rfl) (fun _ _ _ h => h) rfl hHeld (Or.inl ⟨by rfl, ?_⟩) ?_
    · (intro W9 hSw; obtain ⟨v1, v2⟩ := hSw; go_simp; (try (first | with_reducible rfl | rfl)))
    try simp only [Act.put, List.setIfInBounds_toArray, List.set_cons_zero, List.set_cons_succ]
    refine wpG_take0 (i := 2) (oi := ⟨some 13, _, _, _, _, _⟩) (v := .pointer (some ⟨r, 0, none⟩)) rfl (by kernel_rfl) (by kernel_rfl) (by kernel_rfl) (by decide) (by kernel_rfl) (fun _ _ _ h => h) rfl hHeld (Or.inl ⟨by rfl, ?_⟩) ?_
    · (intro W9 hSw; obtain ⟨v1, v2⟩ := hSw; go_simp; (try (first | with_reducible rfl | rfl)))
    try simp only [Act.put, List.setIfInBounds_toArray, List.set_cons_zero, List.set_cons_succ]
    refine wpG_take0 (i := 3) (oi := ⟨some 14, _, _, _, _, _⟩) (v := .pointer (some ⟨r, 5, none⟩)) rfl (by kernel_rfl) (by kernel_rfl) (by kernel_rfl) (by decide) (by kernel_rfl) (fun _ _ _ h => h) rfl hHeld (Or.inl ⟨by rfl, ?_⟩) ?_
    · (intro W9 hSw; obtain ⟨v1, v2⟩ := hSw; go_simp; (try (first | with_reducible rfl | rfl)))
    try simp only [Act.put, List.setIfInBounds_toArray, List.set_cons_zero, List.set_cons_succ]
    refine wpG_take0 (i := 4) (oi := ⟨some 15, _, _, _, _, _⟩) (v := .int .i64 (s.at_ : Int)) rfl (by kernel_rfl) (by kernel_rfl) (by kernel_rfl) (by decide) (by kernel_rfl) (fun _ _ _ h => h) rfl hHeld (Or.inl ⟨by rfl, ?_⟩) ?_
    · (intro W9 hSw; obtain ⟨v1, v2⟩ := hSw; go_simp; (try (first | with_reducible rfl | rfl)))
    try simp only [Act.put, List.setIfInBounds_toArray, List.set_cons_zero, List.set_cons_succ]
    refine wpG_take0 (i := 5) (oi := ⟨some 16, _, _, _, _, _⟩) (v := .int .i64 code) rfl (by kernel_rfl) (by kernel_rfl) (by kernel_rfl) (by decide) (by kernel_rfl) (fun _ _ _ h => h) rfl hHeld (Or.inl ⟨by rfl, ?_⟩) ?_
    · (intro W9 hSw; obtain ⟨v1, v2⟩ := hSw; go_simp; (try (first | with_reducible rfl | rfl)))
    try simp only [Act.put, List.setIfInBounds_toArray, List.set_cons_zero, List.set_cons_succ]
    refine wpG_take0 (i := 6) (oi := ⟨some 17, _, _, _, _, _⟩) (v := .agg #[.int .i64 (s.at_ : Int), .slice none 0 0, .int .i64 code]) rfl (by kernel_rfl) (by kernel_rfl) (by kernel_rfl) (by decide) (by kernel_rfl) (fun _ _ _ h => h) rfl hHeld (Or.inl ⟨by rfl, ?_⟩) ?_
    · (intro W9 hSw; obtain ⟨v1, v2⟩ := hSw; go_simp; (try (first | with_reducible rfl | rfl)))
    try simp only [Act.put, List.setIfInBounds_toArray, List.set_cons_zero, List.set_cons_succ]
    refine wpG_oneA (i := 7) (o := ⟨some 18, _, _, _, _, _⟩) (by kernel_rfl) rfl rfl (fun K hK => ?_)
    go_simp
    (with_reducible refine (ended_any B r k m c v { s with st := 1 } s.at_ code none 0 0 w2.drew (HR2.out.below (below_drew (Below.refl _ _)))).mono ?_); rintro e w8 ⟨rfl, h8, o8⟩
    have H8 := Lib.hid h8
    have O8 := Lib.hid (Only.trans (Only.of_below (p := fun q => q = r) (below_drew (Below.refl _ w2))) o8 fun b hb e => e)
    have B8 := Lib.hid (HX2.out.only O8.out (fun e => HNE.out e.symm))
    have G8 := Lib.hid (HG2.out.only O8.out (fun e => HNG.out e.symm))
    clear h8 o8
    refine hK.out _ _ ⟨G8.out.cell 0, H8.out.blk.cell 5⟩ (fun hHeld => ?_)
    clear hK K
    try simp only [Act.put, List.setIfInBounds_toArray, List.set_cons_zero, List.set_cons_succ]
    refine wpG_takeA (i := 8) (oi := ⟨some 19, _, _, _, _, _⟩) (v := .agg #[.int .i64 (s.at_ : Int), .slice none 0 0, .int .i64 code]) rfl (by kernel_rfl) (by kernel_rfl) (by kernel_rfl) (by decide) (fun _ _ _ h => h) h01 rfl hHeld (Or.inl ⟨by rfl, ?_⟩) ?_
    · (intro W9 hSw; go_simp; (try (first | with_reducible rfl | rfl)))
    try simp only [Act.put, List.setIfInBounds_toArray, List.set_cons_zero, List.set_cons_succ]
    refine wpG_takeA (i := 9) (oi := ⟨some 20, _, _, _, _, _⟩) (v := .bool true) rfl (by kernel_rfl) (by kernel_rfl) (by kernel_rfl) (by decide) (fun _ _ _ h => h) h01 rfl hHeld (Or.inl ⟨by rfl, ?_⟩) ?_
    · (intro W9 hSw; go_simp; (try (first | with_reducible rfl | rfl)))
    try simp only [Act.put, List.setIfInBounds_toArray, List.set_cons_zero, List.set_cons_succ]
    refine wpG_oneB (i := 10) (o := ⟨none, _, _, _, _, _⟩) (by kernel_rfl) rfl rfl (fun K hK => ?_)
    obtain ⟨g0, g1, g2⟩ : w8.cell? ⟨bx, 0, none⟩ = some (.int .i64 0) ∧ w8.cell? ⟨bx, 1, none⟩ = some (.slice none 0 0) ∧ w8.cell? ⟨bx, 2, none⟩ = some (.int .i64 0) := ⟨B8.out.cell 0, B8.out.cell 1, B8.out.cell 2⟩
    have y0 := B8.out.frozen 0
    have y1 := B8.out.frozen 1
    have y2 := B8.out.frozen 2
    go_simp
    refine hK.out _ _ trivial (fun hHeld => ?_)
    clear hK K
    try simp only [Act.put, List.setIfInBounds_toArray, List.set_cons_zero, List.set_cons_succ]
    refine wpG_takeB (i := 11) (oi := ⟨some 5, _, _, _, _, _⟩) (v := .bool true) rfl (by kernel_rfl) (by kernel_rfl) (by kernel_rfl) (by decide) (fun _ _ _ h => h) h01 rfl hHeld (Or.inl ⟨by rfl, ?_⟩) ?_
    · (intro W9 hSw; go_simp; (try (first | with_reducible rfl | rfl)))
    try simp only [Act.put, List.setIfInBounds_toArray, List.set_cons_zero, List.set_cons_succ]
    refine wpG_done (by kernel_rfl) ?_ _
    clear hHeld h01
    go_wp2_with fail
    refine bodyPost_ret (v := .tuple #[.agg #[.int .i64 (s.at_ : Int), .slice none 0 0, .int .i64 code], .bool true]) (fr_res rfl rfl rfl (blk_set3 B8.out)) rfl ?_
    rw [HP.out]
    exact ⟨⟨none, 0, 0, rfl, World.ownsRow_nil _ _ 5 1⟩, .slice none 0 0, (H8.out.box B8.out), only_set3 (HON2.out.trans (O8.out.mono (q := SFo r v) fun b _ e => .inl e) fun b _ x => x) (Nat.le_of_eq HBXE.out), .inr fun _ e => by cases e⟩
end Go.Proofs.Ytibkhjpjneoabaa

/- The reference's opened: the result of sealed bytes. -/
import Derived.Test.YtibkhjpjneoabaaFg
import Derived.Test.YtibkhjpjneoabaaFq
namespace Go.Proofs.Ytibkhjpjneoabaa
open Go.RowKit
set_option linter.unusedVariables false
set_option linter.unusedSimpArgs false

/-- The framing's box, and the bytes. -/
def RoS (g : Nat) (k m c : Int) (A : Option Addr) (n cp : Nat) (l : List UInt8) (W : World) : Prop := W.cell? ⟨g, 0, none⟩ = some (.int .i64 k) ∧ W.cell? ⟨g, 1, none⟩ = some (.int .i64 m) ∧ W.cell? ⟨g, 2, none⟩ = some (.int .i64 c) ∧ RB W A n cp l
theorem RoS.below {g : Nat} {k m c : Int} {A : Option Addr} {n cp : Nat} {l : List UInt8} {w W : World} (h : RoS g k m c A n cp l w) (hb : Below w.heap.size w W) : RoS g k m c A n cp l W := by
  obtain ⟨h1, h2, h3, h4⟩ := h
  have key : ∀ {a : Addr} {u : Value}, w.cell? a = some u → W.cell? a = some u := fun h => (hb.cell (World.block_lt_of_cell? _ _ h)).trans h
  exact ⟨key h1, key h2, key h3, h4.below hb⟩

set_option maxRecDepth 100000 in
set_option maxHeartbeats 4000000 in
theorem ropened_any (k m c : Int) (a : Nat) (h0 : 0 ≤ c) (h3 : c ≤ 3) (A : Option Addr) (n cp : Nat) (l : List UInt8) (w : World) (hr : RB w A n cp l) (hn : n ≤ 50000) :
    Calls Try.prog 55 #[FV k m c, .int .i64 (a : Int), .slice A n cp] w (Framed1 w (openS c a l)) := by
  unfold FV
  obtain ⟨W0, hW0⟩ : ∃ W0, (w.alloc (.cells #[.int .i64 k, .int .i64 m, .int .i64 c] 24)).alloc (.cells #[.int .i64 0, .slice none 0 0, .int .i64 0] 44) = W0 := ⟨_, rfl⟩
  have hb0 : Below w.heap.size w W0 := hW0 ▸ ((Below.refl _ w).alloc (Nat.le_refl _) _).alloc (by simp) _
  have kf : Blk W0 w.heap.size 24 #[.int .i64 k, .int .i64 m, .int .i64 c] := hW0 ▸ (Blk.new w 24 _).alloc _
  have kx : Blk W0 (w.heap.size + 1) 44 #[.int .i64 0, .slice none 0 0, .int .i64 0] := by have := Blk.new (w.alloc (.cells #[.int .i64 k, .int .i64 m, .int .i64 c] 24)) 44 #[.int .i64 0, .slice none 0 0, .int .i64 0]; rw [World.size_alloc, hW0] at this; exact this
  have hS0 : RoS w.heap.size k m c A n cp l W0 := ⟨kf.cell 0, kf.cell 1, kf.cell 2, hr.below hb0⟩
  obtain ⟨f0, f1, f2, -⟩ := hS0
  have HW0 := Lib.hid hW0
  have HB0 := Lib.hid hb0
  have HKX := Lib.hid kx
  have HS0 := Lib.hid (show RoS w.heap.size k m c A n cp l W0 from ⟨kf.cell 0, kf.cell 1, kf.cell 2, hr.below hb0⟩)
  have HN := Lib.hid hn
  have HF := Lib.hid (show 0 ≤ c ∧ c ≤ 3 from ⟨h0, h3⟩)
  have C54 := Lib.hid (tail_any k m c h0 h3 W0)
  unfold FV at C54
  have htq := tailN_le c
  have hn2 : (n : Int) ≤ 50000 := by omega
  have ht2 : (tailN c : Int) ≤ 4 := by omega
  clear hW0 hb0 kf kx hr hn h0 h3 htq
  go_enter Try.func55, Try.ntmps55
  go_upto_region 1 with fail
  rw [HW0.out]
  clear HW0
  go_wp2_with (go_at_call 54; (with_reducible refine C54.out.mono ?_); rintro e w2 ⟨rfl, b2⟩; refine Hid.out ?_)
  refine Lib.hid ?_
  have HC2 := Lib.hid (HS0.out.below b2)
  have HK2 := Lib.hid (HKX.out.below b2 HKX.out.lt)
  have HBW := Lib.hid (HB0.out.trans (b2.mono HB0.out.size))
  clear b2 f0 f1 f2 HKX HS0
  by_cases hlt : n < tailN c
  · have q1 : (n : Int) < (tailN c : Int) := by omega
    have HE := Lib.hid (show openS c a l = ⟨a, [], 4⟩ by unfold openS; rw [if_pos (by rw [HC2.out.2.2.2.len]; exact hlt)])
    obtain ⟨g0, g1, g2⟩ : w2.cell? ⟨w.heap.size + 1, 0, none⟩ = some (.int .i64 0) ∧ w2.cell? ⟨w.heap.size + 1, 1, none⟩ = some (.slice none 0 0) ∧ w2.cell? ⟨w.heap.size + 1, 2, none⟩ = some (.int .i64 0) := ⟨HK2.out.cell 0, HK2.out.cell 1, HK2.out.cell 2⟩
    have z0 := HK2.out.frozen 0
    have z1 := HK2.out.frozen 1
    have z2 := HK2.out.frozen 2
    clear hlt
    go_wp2_with fail
    refine bodyPost_ret (v := .agg #[.int .i64 (a : Int), .slice none 0 0, .int .i64 4]) (fr_res6 rfl rfl (blk_set3 HK2.out)) rfl ⟨none, 0, 0, by rw [HE.out], by rw [HE.out]; exact World.ownsRow_nil _ _ 5 1, below_set3 HBW.out (by omega)⟩
  · obtain ⟨q, hq⟩ : ∃ q, n = q + tailN c := ⟨n - tailN c, by omega⟩
    have hqi : (n : Int) - (tailN c : Int) = (q : Int) := by omega
    have HQ := Lib.hid (show q ≤ n by omega)
    have HLN := Lib.hid (show l.length - tailN c = q by rw [HC2.out.2.2.2.len]; omega)
    have HLG := Lib.hid (show ¬ l.length < tailN c by rw [HC2.out.2.2.2.len]; exact hlt)
    have hq0 : (0 : Int) ≤ (q : Int) := by omega
    clear hq
    go_upto_region 4 with fail
    obtain ⟨At, ct, ht1, hrt, -⟩ := slice_to w2 A n cp q l HC2.out.2.2.2 (by have := HQ.out; omega)
    have HSL := Lib.hid ht1
    have HRT := Lib.hid hrt
    have HS4 := Lib.hid (HC2.out.below (below_drew (Below.refl _ w2)))
    have C30 := Lib.hid (fun W (h : RB W At q ct (l.take q)) => sealed_any k m c HF.out.1 HF.out.2 At q ct (l.take q) W h (by have := HN.out; have := HQ.out; omega))
    unfold Bytes1 FV at C30
    have HEQ := Lib.hid (show l.take q ++ sumB c (l.take q) = l ↔ sumB c (l.take q) = l.drop q from ⟨fun h => by
      have h2 : l.take q ++ sumB c (l.take q) = l.take q ++ l.drop q := by rw [h, List.take_append_drop]
      exact List.append_cancel_left h2, fun h => by rw [h, List.take_append_drop]⟩)
    clear ht1 hrt hqi hn2 ht2 hq0 hlt
    obtain ⟨s9, hs9⟩ : ∃ s9 : ByteArray, ⟨l.toArray⟩ = s9 := ⟨_, rfl⟩
    have HST := Lib.hid hs9
    by_cases heq : sumB c (l.take q) = l.drop q
    · have HE := Lib.hid (show openS c a l = ⟨a, l.take q, 0⟩ by unfold openS; rw [if_neg HLG.out, HLN.out, if_pos heq])
      have HST1 := Lib.hid (show (⟨(l.take q ++ sumB c (l.take q)).toArray⟩ : ByteArray) = s9 by rw [HEQ.out.2 heq]; exact hs9)
      clear heq hs9
      refine wp_region_G (S0 := (RoS w.heap.size k m c A n cp l)) (S1 := (RoS w.heap.size k m c A n cp l)) (c := 99) (by kernel_rfl) ?_
      have hHeld := HS4.out
      have h01 := (fun (W : World) (h : (RoS w.heap.size k m c A n cp l) W) => h)
      refine wpG_takeB (i := 0) (oi := ⟨some 17, _, _, _, _, _⟩) (v := .agg #[.int .i64 k, .int .i64 m, .int .i64 c]) rfl (by kernel_rfl) (by kernel_rfl) (by kernel_rfl) (by decide) (fun _ _ _ h => h) h01 rfl hHeld (Or.inl ⟨by rfl, ?_⟩) ?_
      · (intro W9 hSw; obtain ⟨v1, v2, v3, v4⟩ := hSw; have u1 := conv_RB v4; rw [HST.out] at u1; have s1 := HSL.out; go_simp; (try (first | with_reducible rfl | rfl | (simp; done))))
      try simp only [Act.put, List.setIfInBounds_toArray, List.set_cons_zero, List.set_cons_succ]
      refine wpG_takeB (i := 1) (oi := ⟨some 18, _, _, _, _, _⟩) (v := .slice A n cp) rfl (by kernel_rfl) (by kernel_rfl) (by kernel_rfl) (by decide) (fun _ _ _ h => h) h01 rfl hHeld (Or.inl ⟨by rfl, ?_⟩) ?_
      · (intro W9 hSw; obtain ⟨v1, v2, v3, v4⟩ := hSw; have u1 := conv_RB v4; rw [HST.out] at u1; have s1 := HSL.out; go_simp; (try (first | with_reducible rfl | rfl | (simp; done))))
      try simp only [Act.put, List.setIfInBounds_toArray, List.set_cons_zero, List.set_cons_succ]
      refine wpG_takeB (i := 2) (oi := ⟨some 19, _, _, _, _, _⟩) (v := .int .i64 (q : Int)) rfl (by kernel_rfl) (by kernel_rfl) (by kernel_rfl) (by decide) (fun _ _ _ h => h) h01 rfl hHeld (Or.inl ⟨by rfl, ?_⟩) ?_
      · (intro W9 hSw; obtain ⟨v1, v2, v3, v4⟩ := hSw; have u1 := conv_RB v4; rw [HST.out] at u1; have s1 := HSL.out; go_simp; (try (first | with_reducible rfl | rfl | (simp; done))))
      try simp only [Act.put, List.setIfInBounds_toArray, List.set_cons_zero, List.set_cons_succ]
      refine wpG_takeB (i := 3) (oi := ⟨some 20, _, _, _, _, _⟩) (v := .slice At q ct) rfl (by kernel_rfl) (by kernel_rfl) (by kernel_rfl) (by decide) (fun _ _ _ h => h) h01 rfl hHeld (Or.inl ⟨by rfl, ?_⟩) ?_
      · (intro W9 hSw; obtain ⟨v1, v2, v3, v4⟩ := hSw; have u1 := conv_RB v4; rw [HST.out] at u1; have s1 := HSL.out; go_simp; (try (first | with_reducible rfl | rfl | (simp; done))))
      try simp only [Act.put, List.setIfInBounds_toArray, List.set_cons_zero, List.set_cons_succ]
      refine wpG_takeB (i := 6) (oi := ⟨some 23, _, _, _, _, _⟩) (v := .slice A n cp) rfl (by kernel_rfl) (by kernel_rfl) (by kernel_rfl) (by decide) (fun _ _ _ h => h) h01 rfl hHeld (Or.inl ⟨by rfl, ?_⟩) ?_
      · (intro W9 hSw; obtain ⟨v1, v2, v3, v4⟩ := hSw; have u1 := conv_RB v4; rw [HST.out] at u1; have s1 := HSL.out; go_simp; (try (first | with_reducible rfl | rfl | (simp; done))))
      try simp only [Act.put, List.setIfInBounds_toArray, List.set_cons_zero, List.set_cons_succ]
      refine wpG_takeB (i := 7) (oi := ⟨some 24, _, _, _, _, _⟩) (v := .string s9) rfl (by kernel_rfl) (by kernel_rfl) (by kernel_rfl) (by decide) (fun _ _ _ h => h) h01 rfl hHeld (Or.inl ⟨by rfl, ?_⟩) ?_
      · (intro W9 hSw; obtain ⟨v1, v2, v3, v4⟩ := hSw; have u1 := conv_RB v4; rw [HST.out] at u1; have s1 := HSL.out; go_simp; (try (first | with_reducible rfl | rfl | (simp; done))))
      try simp only [Act.put, List.setIfInBounds_toArray, List.set_cons_zero, List.set_cons_succ]
      refine wpG_oneB (i := 4) (o := ⟨some 21, _, _, _, _, _⟩) (by kernel_rfl) rfl rfl (fun K hK => ?_)
      go_simp
      (with_reducible refine (C30.out _ (HRT.out.below (below_drew (Below.refl _ _)))).mono ?_); rintro e w5 ⟨A5, c5, rfl, ho5, b5⟩
      have HO5 := Lib.hid ho5
      have HB5 := Lib.hid (Below.trans (below_drew (Below.refl w2.heap.size w2)) b5)
      have HC5 := Lib.hid (HC2.out.below HB5.out)
      clear ho5 b5
      refine hK.out _ _ HC5.out (fun hHeld => ?_)
      clear hK K
      try simp only [Act.put, List.setIfInBounds_toArray, List.set_cons_zero, List.set_cons_succ]
      refine wpG_oneB (i := 5) (o := ⟨some 22, _, _, _, _, _⟩) (by kernel_rfl) rfl rfl (fun K hK => ?_)
      have u5 := conv_RB (own_RB3 HO5.out)
      rw [HST1.out] at u5
      go_simp
      refine hK.out _ _ HC5.out (fun hHeld => ?_)
      clear hK K
      try simp only [Act.put, List.setIfInBounds_toArray, List.set_cons_zero, List.set_cons_succ]
      refine wpG_takeB (i := 8) (oi := ⟨some 25, _, _, _, _, _⟩) (v := .bool false) rfl (by kernel_rfl) (by kernel_rfl) (by kernel_rfl) (by decide) (fun _ _ _ h => h) h01 rfl hHeld (Or.inl ⟨by rfl, ?_⟩) ?_
      · (intro W9 hSw; obtain ⟨v1, v2, v3, v4⟩ := hSw; have u1 := conv_RB v4; rw [HST.out] at u1; have s1 := HSL.out; go_simp; (try (first | with_reducible rfl | rfl | (simp; done))))
      try simp only [Act.put, List.setIfInBounds_toArray, List.set_cons_zero, List.set_cons_succ]
      refine wpG_done (by kernel_rfl) ?_ _
      clear hHeld h01
      have HK5 := Lib.hid (HK2.out.below HB5.out HK2.out.lt)
      have HRT5 := Lib.hid (HRT.out.below HB5.out)
      have hq9 : (q : Int) ≤ 50000 := by have := HQ.out; have := HN.out; omega
      have hq0 : (0 : Int) ≤ (q : Int) := by omega
      have hsl := HSL.out
      clear HSL
      have HB5W := Lib.hid (HBW.out.trans (HB5.out.mono HBW.out.size))
      go_wp2_with (at_builtin; go_must (refine wpList_app_own (base := w5.heap.size) (n := 0) (m := q) (xs := []) (news := (l.take q).map Go.Proofs.Ytibkhjpjneoabaa.u8) rfl (.tmp 29) (.tmp 32) 28 rfl el22 rfl (own_none00 w5 5) rfl (HRT5.out.h.alloc _) (u8_one _) (by have := HN.out; have := HQ.out; unfold maxLen; omega) (by have := HN.out; have := HQ.out; omega) (by simp) ?_; intro v6 w6 hown hg hat; refine Hid.out ?_))
      refine Lib.hid ?_
      rw [Nat.zero_add, List.nil_append] at hown
      obtain ⟨A6, c6, rfl, -⟩ := own_form hown
      have hb6 : Below w5.heap.size w5 w6 := below_own ((Below.refl _ w5).alloc (Nat.le_refl _) _) (by simp) (own_none00 w5 5) hg
      have HB6 := Lib.hid (HB5W.out.trans (hb6.mono HB5W.out.size))
      have HO6 := Lib.hid hown
      have HK6 := Lib.hid (HK5.out.below hb6 HK5.out.lt)
      have HBS := Lib.hid hb6.size
      obtain ⟨g0, g1, g2⟩ : w6.cell? ⟨w.heap.size + 1, 0, none⟩ = some (.int .i64 0) ∧ w6.cell? ⟨w.heap.size + 1, 1, none⟩ = some (.slice none 0 0) ∧ w6.cell? ⟨w.heap.size + 1, 2, none⟩ = some (.int .i64 0) := ⟨HK6.out.cell 0, HK6.out.cell 1, HK6.out.cell 2⟩
      have z0 := HK6.out.frozen 0
      have z1 := HK6.out.frozen 1
      have z2 := HK6.out.frozen 2
      clear hown hg hat hb6 hsl
      go_wp2_with fail
      refine bodyPost_ret (v := .agg #[.int .i64 (a : Int), .slice A6 q c6, .int .i64 0]) (fr_res6 rfl rfl (blk_set3 HK6.out)) rfl ⟨A6, q, c6, by rw [HE.out], ?_, below_set3 HB6.out (by omega)⟩
      rw [HE.out]
      have hne := own_ne HO6.out HK6.out (by decide)
      exact own_base (own_setCell (own_setCell (own_setCell HO6.out hne _) hne _) hne _) HB5W.out.size
    · have HE := Lib.hid (show openS c a l = ⟨a, [], 10⟩ by unfold openS; rw [if_neg HLG.out, HLN.out, if_neg heq])
      obtain ⟨s8, hs8⟩ : ∃ s8 : ByteArray, ⟨(l.take q ++ sumB c (l.take q)).toArray⟩ = s8 := ⟨_, rfl⟩
      have HNE9 := Lib.hid (show ¬ s8.toList = s9.toList by
        intro h
        have h2 := bytes_beq (l.take q ++ sumB c (l.take q)) l
        rw [hs8, hs9, h] at h2
        simp at h2
        exact heq (HEQ.out.1 h2))
      have HST1 := Lib.hid hs8
      clear heq hs9 hs8
      refine wp_region_G (S0 := (RoS w.heap.size k m c A n cp l)) (S1 := (RoS w.heap.size k m c A n cp l)) (c := 99) (by kernel_rfl) ?_
      have hHeld := HS4.out
      have h01 := (fun (W : World) (h : (RoS w.heap.size k m c A n cp l) W) => h)
      refine wpG_takeB (i := 0) (oi := ⟨some 17, _, _, _, _, _⟩) (v := .agg #[.int .i64 k, .int .i64 m, .int .i64 c]) rfl (by kernel_rfl) (by kernel_rfl) (by kernel_rfl) (by decide) (fun _ _ _ h => h) h01 rfl hHeld (Or.inl ⟨by rfl, ?_⟩) ?_
      · (intro W9 hSw; obtain ⟨v1, v2, v3, v4⟩ := hSw; have u1 := conv_RB v4; rw [HST.out] at u1; have s1 := HSL.out; go_simp; (try (first | with_reducible rfl | rfl | (simp; done) | (exact HNE9.out))))
      try simp only [Act.put, List.setIfInBounds_toArray, List.set_cons_zero, List.set_cons_succ]
      refine wpG_takeB (i := 1) (oi := ⟨some 18, _, _, _, _, _⟩) (v := .slice A n cp) rfl (by kernel_rfl) (by kernel_rfl) (by kernel_rfl) (by decide) (fun _ _ _ h => h) h01 rfl hHeld (Or.inl ⟨by rfl, ?_⟩) ?_
      · (intro W9 hSw; obtain ⟨v1, v2, v3, v4⟩ := hSw; have u1 := conv_RB v4; rw [HST.out] at u1; have s1 := HSL.out; go_simp; (try (first | with_reducible rfl | rfl | (simp; done) | (exact HNE9.out))))
      try simp only [Act.put, List.setIfInBounds_toArray, List.set_cons_zero, List.set_cons_succ]
      refine wpG_takeB (i := 2) (oi := ⟨some 19, _, _, _, _, _⟩) (v := .int .i64 (q : Int)) rfl (by kernel_rfl) (by kernel_rfl) (by kernel_rfl) (by decide) (fun _ _ _ h => h) h01 rfl hHeld (Or.inl ⟨by rfl, ?_⟩) ?_
      · (intro W9 hSw; obtain ⟨v1, v2, v3, v4⟩ := hSw; have u1 := conv_RB v4; rw [HST.out] at u1; have s1 := HSL.out; go_simp; (try (first | with_reducible rfl | rfl | (simp; done) | (exact HNE9.out))))
      try simp only [Act.put, List.setIfInBounds_toArray, List.set_cons_zero, List.set_cons_succ]
      refine wpG_takeB (i := 3) (oi := ⟨some 20, _, _, _, _, _⟩) (v := .slice At q ct) rfl (by kernel_rfl) (by kernel_rfl) (by kernel_rfl) (by decide) (fun _ _ _ h => h) h01 rfl hHeld (Or.inl ⟨by rfl, ?_⟩) ?_
      · (intro W9 hSw; obtain ⟨v1, v2, v3, v4⟩ := hSw; have u1 := conv_RB v4; rw [HST.out] at u1; have s1 := HSL.out; go_simp; (try (first | with_reducible rfl | rfl | (simp; done) | (exact HNE9.out))))
      try simp only [Act.put, List.setIfInBounds_toArray, List.set_cons_zero, List.set_cons_succ]
      refine wpG_takeB (i := 6) (oi := ⟨some 23, _, _, _, _, _⟩) (v := .slice A n cp) rfl (by kernel_rfl) (by kernel_rfl) (by kernel_rfl) (by decide) (fun _ _ _ h => h) h01 rfl hHeld (Or.inl ⟨by rfl, ?_⟩) ?_
      · (intro W9 hSw; obtain ⟨v1, v2, v3, v4⟩ := hSw; have u1 := conv_RB v4; rw [HST.out] at u1; have s1 := HSL.out; go_simp; (try (first | with_reducible rfl | rfl | (simp; done) | (exact HNE9.out))))
      try simp only [Act.put, List.setIfInBounds_toArray, List.set_cons_zero, List.set_cons_succ]
      refine wpG_takeB (i := 7) (oi := ⟨some 24, _, _, _, _, _⟩) (v := .string s9) rfl (by kernel_rfl) (by kernel_rfl) (by kernel_rfl) (by decide) (fun _ _ _ h => h) h01 rfl hHeld (Or.inl ⟨by rfl, ?_⟩) ?_
      · (intro W9 hSw; obtain ⟨v1, v2, v3, v4⟩ := hSw; have u1 := conv_RB v4; rw [HST.out] at u1; have s1 := HSL.out; go_simp; (try (first | with_reducible rfl | rfl | (simp; done) | (exact HNE9.out))))
      try simp only [Act.put, List.setIfInBounds_toArray, List.set_cons_zero, List.set_cons_succ]
      refine wpG_oneB (i := 4) (o := ⟨some 21, _, _, _, _, _⟩) (by kernel_rfl) rfl rfl (fun K hK => ?_)
      go_simp
      (with_reducible refine (C30.out _ (HRT.out.below (below_drew (Below.refl _ _)))).mono ?_); rintro e w5 ⟨A5, c5, rfl, ho5, b5⟩
      have HO5 := Lib.hid ho5
      have HB5 := Lib.hid (Below.trans (below_drew (Below.refl w2.heap.size w2)) b5)
      have HC5 := Lib.hid (HC2.out.below HB5.out)
      clear ho5 b5
      refine hK.out _ _ HC5.out (fun hHeld => ?_)
      clear hK K
      try simp only [Act.put, List.setIfInBounds_toArray, List.set_cons_zero, List.set_cons_succ]
      refine wpG_oneB (i := 5) (o := ⟨some 22, _, _, _, _, _⟩) (by kernel_rfl) rfl rfl (fun K hK => ?_)
      have u5 := conv_RB (own_RB3 HO5.out)
      rw [HST1.out] at u5
      go_simp
      refine hK.out _ _ HC5.out (fun hHeld => ?_)
      clear hK K
      try simp only [Act.put, List.setIfInBounds_toArray, List.set_cons_zero, List.set_cons_succ]
      refine wpG_takeB (i := 8) (oi := ⟨some 25, _, _, _, _, _⟩) (v := .bool true) rfl (by kernel_rfl) (by kernel_rfl) (by kernel_rfl) (by decide) (fun _ _ _ h => h) h01 rfl hHeld (Or.inl ⟨by rfl, ?_⟩) ?_
      · (intro W9 hSw; obtain ⟨v1, v2, v3, v4⟩ := hSw; have u1 := conv_RB v4; rw [HST.out] at u1; have s1 := HSL.out; go_simp; (try (first | with_reducible rfl | rfl | (simp; done) | (exact HNE9.out))))
      try simp only [Act.put, List.setIfInBounds_toArray, List.set_cons_zero, List.set_cons_succ]
      refine wpG_done (by kernel_rfl) ?_ _
      clear hHeld h01
      have HK5 := Lib.hid (HK2.out.below HB5.out HK2.out.lt)
      have HB5W := Lib.hid (HBW.out.trans (HB5.out.mono HBW.out.size))
      obtain ⟨g0, g1, g2⟩ : w5.cell? ⟨w.heap.size + 1, 0, none⟩ = some (.int .i64 0) ∧ w5.cell? ⟨w.heap.size + 1, 1, none⟩ = some (.slice none 0 0) ∧ w5.cell? ⟨w.heap.size + 1, 2, none⟩ = some (.int .i64 0) := ⟨HK5.out.cell 0, HK5.out.cell 1, HK5.out.cell 2⟩
      have z0 := HK5.out.frozen 0
      have z1 := HK5.out.frozen 1
      have z2 := HK5.out.frozen 2
      go_wp2_with fail
      refine bodyPost_ret (v := .agg #[.int .i64 (a : Int), .slice none 0 0, .int .i64 10]) (fr_res6 rfl rfl (blk_set3 HK5.out)) rfl ⟨none, 0, 0, by rw [HE.out], by rw [HE.out]; exact World.ownsRow_nil _ _ 5 1, below_set3 HB5W.out (by omega)⟩
end Go.Proofs.Ytibkhjpjneoabaa

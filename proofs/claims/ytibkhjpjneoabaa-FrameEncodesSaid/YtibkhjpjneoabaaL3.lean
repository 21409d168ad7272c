/- FrameEncodes: the law's walk. -/
import Derived.Test.YtibkhjpjneoabaaFt
import Derived.Test.YtibkhjpjneoabaaRw
namespace Go.Proofs.Ytibkhjpjneoabaa
open Go.RowKit
set_option linter.unusedVariables false
set_option linter.unusedSimpArgs false

def EnS (g : Nat) (k m c : Int) (A1 : Option Addr) (n1 c1 : Nat) (A2 : Option Addr) (n2 c2 : Nat) (ys : List UInt8) (W : World) : Prop := W.cell? ⟨g, 0, none⟩ = some (.int .i64 k) ∧ W.cell? ⟨g, 1, none⟩ = some (.int .i64 m) ∧ W.cell? ⟨g, 2, none⟩ = some (.int .i64 c) ∧ RB W A1 n1 c1 ys ∧ RB W A2 n2 c2 ys
theorem EnS.below {g n1 c1 n2 c2 : Nat} {k m c : Int} {A1 A2 : Option Addr} {ys : List UInt8} {w W : World} (h : EnS g k m c A1 n1 c1 A2 n2 c2 ys w) (hb : Below w.heap.size w W) : EnS g k m c A1 n1 c1 A2 n2 c2 ys W := by
  obtain ⟨h1, h2, h3, h4, h5⟩ := h
  have key : ∀ {a : Addr} {u : Value}, w.cell? a = some u → W.cell? a = some u := fun h => (hb.cell (World.block_lt_of_cell? _ _ h)).trans h
  exact ⟨key h1, key h2, key h3, h4.below hb, h5.below hb⟩
/-- What one side's Encode yields. -/
def EncY (w : World) (E : Int) (ys : List UInt8) (e : Ending) (w' : World) : Prop := ∃ A n cp, e = .returned (.tuple #[.slice A n cp, .int .i64 E]) ∧ RB w' A n cp ys ∧ Below w.heap.size w w'
theorem encs (k m c : Int) (L : Option Addr) (len cL : Nat) (f : Nat → Pk) (hl : len ≤ 20) : ∃ v E ys, (∀ W, Calls Try.prog 13 #[FV k m c] W fun e w' => e = .returned (.bool v) ∧ Below W.heap.size W w') ∧ (∀ W, Calls Try.prog 14 #[FV k m c] W fun e w' => e = .returned (.bool v) ∧ Below W.heap.size W w') ∧ ∀ W, PSS W L len f → (∀ i, i < len → (f i).n ≤ 700) → Calls Try.prog 11 #[FV k m c, .slice L len cL] W (EncY W E ys) ∧ Calls Try.prog 12 #[FV k m c, .slice L len cL] W (EncY W E ys) := by
  rcases ok_or_bad k m c with h | h
  · refine ⟨true, encErr k m c (pks f len), if encErr k m c (pks f len) = 0 then encB k m c (pks f len) else [], fun W => valid_yes k m c W h, fun W => rvalid_yes k m c W h, fun W hs h7 => ?_⟩
    have h8 : ∀ i, i < len → (f i).l.length ≤ 700 := fun i hi => by
      obtain ⟨b, o, -, -, -, hr⟩ := hs.2 i hi
      rw [hr.len]; exact h7 i hi
    exact ⟨(enc_any k m c h L len cL f W hs hl h8).mono fun e w' ⟨A, n, cp, h1, h2, h3, h4⟩ => ⟨A, n, cp, h1, own_RB3 h3, h4⟩, (renc_any k m c h L len cL f W hs hl h8).mono fun e w' ⟨A, n, cp, h1, h2, h3, h4⟩ => ⟨A, n, cp, h1, own_RB3 h3, h4⟩⟩
  · exact ⟨false, 2, [], fun W => valid_no k m c W h, fun W => rvalid_no k m c W h, fun W hs h7 => ⟨(enc_bad k m c h L len cL W).mono fun e w' ⟨h1, h2⟩ => ⟨none, 0, 0, h1, RB.nil w', h2⟩, (renc_bad k m c h L len cL W).mono fun e w' ⟨h1, h2⟩ => ⟨none, 0, 0, h1, RB.nil w', h2⟩⟩⟩

set_option maxRecDepth 100000 in
set_option maxHeartbeats 4000000 in
theorem encodes_any (k m c : Int) (L : Option Addr) (len cL : Nat) (f : Nat → Pk) (w : World) (hs : PSS w L len f) :
    Calls Try.prog 3 #[FV k m c, .slice L len cL] w fun e w' => e = .returned (.bool true) ∧ Below w.heap.size w w' := by
  unfold FV
  obtain ⟨W0, hW0⟩ : ∃ W0, w.alloc (.cells #[.int .i64 k, .int .i64 m, .int .i64 c] 24) = W0 := ⟨_, rfl⟩
  have hb0 : Below w.heap.size w W0 := hW0 ▸ (Below.refl _ w).alloc (Nat.le_refl _) _
  have kf : Blk W0 w.heap.size 24 #[.int .i64 k, .int .i64 m, .int .i64 c] := hW0 ▸ Blk.new w 24 _
  obtain ⟨f0, f1, f2⟩ : W0.cell? ⟨w.heap.size, 0, none⟩ = some (.int .i64 k) ∧ W0.cell? ⟨w.heap.size, 1, none⟩ = some (.int .i64 m) ∧ W0.cell? ⟨w.heap.size, 2, none⟩ = some (.int .i64 c) := ⟨kf.cell 0, kf.cell 1, kf.cell 2⟩
  have C9 := Lib.hid (few_any L len cL f W0 (hs.below hb0))
  have C10 := Lib.hid (known_any W0)
  have HW0 := Lib.hid hW0
  have HB0 := Lib.hid hb0
  have KF := Lib.hid kf
  have HS := Lib.hid (hs.below hb0)
  unfold FewD at C9
  clear hW0 hb0 kf hs
  go_enter Try.func3, Try.ntmps3
  go_upto_region 1 with fail
  rw [HW0.out]
  clear HW0
  go_wp2_with (go_at_call 9; (with_reducible refine C9.out.mono ?_); rintro e w1 ⟨b, rfl, rfl, hb⟩; refine Hid.out ?_)
  refine Lib.hid ?_
  cases b with
  | false =>
    clear hb
    go_wp2_with (go_at_call 10; (with_reducible refine C10.out.mono ?_); rintro e w2 ⟨rfl, b2⟩; have HB2 := Lib.hid b2; clear b2)
    go_ret
    exact ⟨rfl, HB0.out.trans (HB2.out.mono HB0.out.size)⟩
  | true =>
  obtain ⟨hl, h7⟩ := hb rfl
  obtain ⟨v, E, ys, h13, h14, henc⟩ := encs k m c L len cL f hl
  have C13 := Lib.hid h13
  have C14 := Lib.hid h14
  have C11 := Lib.hid (henc W0 HS.out h7).1
  have CE := Lib.hid henc
  have H7 := Lib.hid h7
  unfold FV at C13 C14 C11
  unfold EncY at C11
  clear hb hl h7 h13 h14 henc C10
  go_wp2_with (go_at_call 11; (with_reducible refine C11.out.mono ?_); rintro e w2 ⟨A1, n1, c1, rfl, hr2, hb2⟩; refine Hid.out ?_)
  refine Lib.hid ?_
  have C12 := Lib.hid (CE.out w2 (HS.out.below hb2) H7.out).2
  unfold FV EncY at C12
  have K2 := Lib.hid (KF.out.below hb2 KF.out.lt)
  have HR2 := Lib.hid hr2
  have HB2 := Lib.hid (HB0.out.trans (hb2.mono HB0.out.size))
  clear hr2 hb2 f0 f1 f2
  obtain ⟨f0, f1, f2⟩ : w2.cell? ⟨w.heap.size, 0, none⟩ = some (.int .i64 k) ∧ w2.cell? ⟨w.heap.size, 1, none⟩ = some (.int .i64 m) ∧ w2.cell? ⟨w.heap.size, 2, none⟩ = some (.int .i64 c) := ⟨K2.out.cell 0, K2.out.cell 1, K2.out.cell 2⟩
  go_wp2_with (go_at_call 12; (with_reducible refine C12.out.mono ?_); rintro e w3 ⟨A2, n2, c2, rfl, hr3, hb3⟩; refine Hid.out ?_)
  refine Lib.hid ?_
  have K3 := Lib.hid (K2.out.below hb3 K2.out.lt)
  have HS3 := Lib.hid (show EnS w.heap.size k m c A1 n1 c1 A2 n2 c2 ys w3 from ⟨K3.out.cell 0, K3.out.cell 1, K3.out.cell 2, HR2.out.below hb3, hr3⟩)
  have HB3 := Lib.hid (HB2.out.trans (hb3.mono HB2.out.size))
  obtain ⟨s9, hs9⟩ : ∃ s9 : ByteArray, ⟨ys.toArray⟩ = s9 := ⟨_, rfl⟩
  have HST := Lib.hid hs9
  clear hr3 hb3 hs9 f0 f1 f2
  go_upto_region 5 with fail
  have Swd := Lib.hid (HS3.out.below (below_drew (Below.refl _ w3)))
  have HBBwd := Lib.hid (HB3.out.trans (below_drew (Below.refl _ w3) |>.mono HB3.out.size))
  refine wp_region_G (S0 := (EnS w.heap.size k m c A1 n1 c1 A2 n2 c2 ys)) (S1 := (EnS w.heap.size k m c A1 n1 c1 A2 n2 c2 ys)) (c := 99) (by kernel_rfl) ?_
  have hHeld := Swd.out
  have h01 := (fun (W : World) (h : (EnS w.heap.size k m c A1 n1 c1 A2 n2 c2 ys) W) => h)
  refine wpG_takeB (i := 0) (oi := ⟨some 25, _, _, _, _, _⟩) (v := .agg #[.int .i64 k, .int .i64 m, .int .i64 c]) rfl (by kernel_rfl) (by kernel_rfl) (by kernel_rfl) (by decide) (fun _ _ _ h => h) h01 rfl hHeld (Or.inl ⟨by rfl, ?_⟩) ?_
  · (intro W9 hSw; obtain ⟨v1, v2, v3, v4, v5⟩ := hSw; have u1 := conv_RB v4; have u2 := conv_RB v5; rw [HST.out] at u1 u2; clear v4 v5; go_simp; (try (first | with_reducible rfl | rfl | (simp; done))))
  try simp only [Act.put, List.setIfInBounds_toArray, List.set_cons_zero, List.set_cons_succ]
  refine wpG_takeB (i := 2) (oi := ⟨some 27, _, _, _, _, _⟩) (v := .agg #[.int .i64 k, .int .i64 m, .int .i64 c]) rfl (by kernel_rfl) (by kernel_rfl) (by kernel_rfl) (by decide) (fun _ _ _ h => h) h01 rfl hHeld (Or.inl ⟨by rfl, ?_⟩) ?_
  · (intro W9 hSw; obtain ⟨v1, v2, v3, v4, v5⟩ := hSw; have u1 := conv_RB v4; have u2 := conv_RB v5; rw [HST.out] at u1 u2; clear v4 v5; go_simp; (try (first | with_reducible rfl | rfl | (simp; done))))
  try simp only [Act.put, List.setIfInBounds_toArray, List.set_cons_zero, List.set_cons_succ]
  refine wpG_oneB (i := 1) (o := ⟨some 26, _, _, _, _, _⟩) (by kernel_rfl) rfl rfl (fun K hK => ?_)
  go_simp
  (with_reducible refine (C13.out _).mono ?_); rintro e wa ⟨rfl, bwa⟩
  have Swa := Lib.hid (Swd.out.below bwa)
  have HBBwa := Lib.hid (HBBwd.out.trans (bwa.mono HBBwd.out.size))
  clear bwa
  refine hK.out _ _ Swa.out (fun hHeld => ?_)
  clear hK K
  try simp only [Act.put, List.setIfInBounds_toArray, List.set_cons_zero, List.set_cons_succ]
  refine wpG_oneB (i := 3) (o := ⟨some 28, _, _, _, _, _⟩) (by kernel_rfl) rfl rfl (fun K hK => ?_)
  go_simp
  (with_reducible refine (C14.out _).mono ?_); rintro e wb ⟨rfl, bwb⟩
  have Swb := Lib.hid (Swa.out.below bwb)
  have HBBwb := Lib.hid (HBBwa.out.trans (bwb.mono HBBwa.out.size))
  clear bwb
  refine hK.out _ _ Swb.out (fun hHeld => ?_)
  clear hK K
  try simp only [Act.put, List.setIfInBounds_toArray, List.set_cons_zero, List.set_cons_succ]
  refine wpG_takeB (i := 4) (oi := ⟨some 29, _, _, _, _, _⟩) (v := .bool true) rfl (by kernel_rfl) (by kernel_rfl) (by kernel_rfl) (by decide) (fun _ _ _ h => h) h01 rfl hHeld (Or.inl ⟨by rfl, ?_⟩) ?_
  · (intro W9 hSw; obtain ⟨v1, v2, v3, v4, v5⟩ := hSw; have u1 := conv_RB v4; have u2 := conv_RB v5; rw [HST.out] at u1 u2; clear v4 v5; go_simp; (try (first | with_reducible rfl | rfl | (simp; done))))
  try simp only [Act.put, List.setIfInBounds_toArray, List.set_cons_zero, List.set_cons_succ]
  refine wpG_takeB (i := 5) (oi := ⟨some 30, _, _, _, _, _⟩) (v := .bool true) rfl (by kernel_rfl) (by kernel_rfl) (by kernel_rfl) (by decide) (fun _ _ _ h => h) h01 rfl hHeld (Or.inl ⟨by rfl, ?_⟩) ?_
  · (intro W9 hSw; obtain ⟨v1, v2, v3, v4, v5⟩ := hSw; have u1 := conv_RB v4; have u2 := conv_RB v5; rw [HST.out] at u1 u2; clear v4 v5; go_simp; (try (first | with_reducible rfl | rfl | (simp; done))))
  try simp only [Act.put, List.setIfInBounds_toArray, List.set_cons_zero, List.set_cons_succ]
  refine wpG_takeB (i := 6) (oi := ⟨some 31, _, _, _, _, _⟩) (v := .slice A1 n1 c1) rfl (by kernel_rfl) (by kernel_rfl) (by kernel_rfl) (by decide) (fun _ _ _ h => h) h01 rfl hHeld (Or.inl ⟨by rfl, ?_⟩) ?_
  · (intro W9 hSw; obtain ⟨v1, v2, v3, v4, v5⟩ := hSw; have u1 := conv_RB v4; have u2 := conv_RB v5; rw [HST.out] at u1 u2; clear v4 v5; go_simp; (try (first | with_reducible rfl | rfl | (simp; done))))
  try simp only [Act.put, List.setIfInBounds_toArray, List.set_cons_zero, List.set_cons_succ]
  refine wpG_takeB (i := 7) (oi := ⟨some 32, _, _, _, _, _⟩) (v := .string s9) rfl (by kernel_rfl) (by kernel_rfl) (by kernel_rfl) (by decide) (fun _ _ _ h => h) h01 rfl hHeld (Or.inl ⟨by rfl, ?_⟩) ?_
  · (intro W9 hSw; obtain ⟨v1, v2, v3, v4, v5⟩ := hSw; have u1 := conv_RB v4; have u2 := conv_RB v5; rw [HST.out] at u1 u2; clear v4 v5; go_simp; (try (first | with_reducible rfl | rfl | (simp; done))))
  try simp only [Act.put, List.setIfInBounds_toArray, List.set_cons_zero, List.set_cons_succ]
  refine wpG_takeB (i := 8) (oi := ⟨some 33, _, _, _, _, _⟩) (v := .slice A2 n2 c2) rfl (by kernel_rfl) (by kernel_rfl) (by kernel_rfl) (by decide) (fun _ _ _ h => h) h01 rfl hHeld (Or.inl ⟨by rfl, ?_⟩) ?_
  · (intro W9 hSw; obtain ⟨v1, v2, v3, v4, v5⟩ := hSw; have u1 := conv_RB v4; have u2 := conv_RB v5; rw [HST.out] at u1 u2; clear v4 v5; go_simp; (try (first | with_reducible rfl | rfl | (simp; done))))
  try simp only [Act.put, List.setIfInBounds_toArray, List.set_cons_zero, List.set_cons_succ]
  refine wpG_takeB (i := 9) (oi := ⟨some 34, _, _, _, _, _⟩) (v := .string s9) rfl (by kernel_rfl) (by kernel_rfl) (by kernel_rfl) (by decide) (fun _ _ _ h => h) h01 rfl hHeld (Or.inl ⟨by rfl, ?_⟩) ?_
  · (intro W9 hSw; obtain ⟨v1, v2, v3, v4, v5⟩ := hSw; have u1 := conv_RB v4; have u2 := conv_RB v5; rw [HST.out] at u1 u2; clear v4 v5; go_simp; (try (first | with_reducible rfl | rfl | (simp; done))))
  try simp only [Act.put, List.setIfInBounds_toArray, List.set_cons_zero, List.set_cons_succ]
  refine wpG_takeB (i := 10) (oi := ⟨some 35, _, _, _, _, _⟩) (v := .bool true) rfl (by kernel_rfl) (by kernel_rfl) (by kernel_rfl) (by decide) (fun _ _ _ h => h) h01 rfl hHeld (Or.inl ⟨by rfl, ?_⟩) ?_
  · (intro W9 hSw; obtain ⟨v1, v2, v3, v4, v5⟩ := hSw; have u1 := conv_RB v4; have u2 := conv_RB v5; rw [HST.out] at u1 u2; clear v4 v5; go_simp; (try (first | with_reducible rfl | rfl | (simp; done))))
  try simp only [Act.put, List.setIfInBounds_toArray, List.set_cons_zero, List.set_cons_succ]
  refine wpG_takeB (i := 11) (oi := ⟨some 36, _, _, _, _, _⟩) (v := .bool true) rfl (by kernel_rfl) (by kernel_rfl) (by kernel_rfl) (by decide) (fun _ _ _ h => h) h01 rfl hHeld (Or.inl ⟨by rfl, ?_⟩) ?_
  · (intro W9 hSw; obtain ⟨v1, v2, v3, v4, v5⟩ := hSw; have u1 := conv_RB v4; have u2 := conv_RB v5; rw [HST.out] at u1 u2; clear v4 v5; go_simp; (try (first | with_reducible rfl | rfl | (simp; done))))
  try simp only [Act.put, List.setIfInBounds_toArray, List.set_cons_zero, List.set_cons_succ]
  refine wpG_takeB (i := 12) (oi := ⟨some 37, _, _, _, _, _⟩) (v := .bool true) rfl (by kernel_rfl) (by kernel_rfl) (by kernel_rfl) (by decide) (fun _ _ _ h => h) h01 rfl hHeld (Or.inl ⟨by rfl, ?_⟩) ?_
  · (intro W9 hSw; obtain ⟨v1, v2, v3, v4, v5⟩ := hSw; have u1 := conv_RB v4; have u2 := conv_RB v5; rw [HST.out] at u1 u2; clear v4 v5; go_simp; (try (first | with_reducible rfl | rfl | (simp; done))))
  try simp only [Act.put, List.setIfInBounds_toArray, List.set_cons_zero, List.set_cons_succ]
  refine wpG_takeB (i := 13) (oi := ⟨some 38, _, _, _, _, _⟩) (v := .int .i64 E) rfl (by kernel_rfl) (by kernel_rfl) (by kernel_rfl) (by decide) (fun _ _ _ h => h) h01 rfl hHeld (Or.inl ⟨by rfl, ?_⟩) ?_
  · (intro W9 hSw; obtain ⟨v1, v2, v3, v4, v5⟩ := hSw; have u1 := conv_RB v4; have u2 := conv_RB v5; rw [HST.out] at u1 u2; clear v4 v5; go_simp; (try (first | with_reducible rfl | rfl | (simp; done))))
  try simp only [Act.put, List.setIfInBounds_toArray, List.set_cons_zero, List.set_cons_succ]
  refine wpG_takeB (i := 15) (oi := ⟨some 40, _, _, _, _, _⟩) (v := .int .i64 E) rfl (by kernel_rfl) (by kernel_rfl) (by kernel_rfl) (by decide) (fun _ _ _ h => h) h01 rfl hHeld (Or.inl ⟨by rfl, ?_⟩) ?_
  · (intro W9 hSw; obtain ⟨v1, v2, v3, v4, v5⟩ := hSw; have u1 := conv_RB v4; have u2 := conv_RB v5; rw [HST.out] at u1 u2; clear v4 v5; go_simp; (try (first | with_reducible rfl | rfl | (simp; done))))
  try simp only [Act.put, List.setIfInBounds_toArray, List.set_cons_zero, List.set_cons_succ]
  refine wpG_oneB (i := 14) (o := ⟨some 39, _, _, _, _, _⟩) (by kernel_rfl) rfl rfl (fun K hK => ?_)
  go_simp
  (with_reducible refine (num_any E wb).mono ?_); rintro e _ ⟨rfl, rfl⟩
  refine hK.out _ _ Swb.out (fun hHeld => ?_)
  clear hK K
  try simp only [Act.put, List.setIfInBounds_toArray, List.set_cons_zero, List.set_cons_succ]
  refine wpG_takeB (i := 16) (oi := ⟨some 41, _, _, _, _, _⟩) (v := .bool true) rfl (by kernel_rfl) (by kernel_rfl) (by kernel_rfl) (by decide) (fun _ _ _ h => h) h01 rfl hHeld (Or.inl ⟨by rfl, ?_⟩) ?_
  · (intro W9 hSw; obtain ⟨v1, v2, v3, v4, v5⟩ := hSw; have u1 := conv_RB v4; have u2 := conv_RB v5; rw [HST.out] at u1 u2; clear v4 v5; go_simp; (try (first | with_reducible rfl | rfl | (simp; done))))
  try simp only [Act.put, List.setIfInBounds_toArray, List.set_cons_zero, List.set_cons_succ]
  refine wpG_takeB (i := 17) (oi := ⟨some 42, _, _, _, _, _⟩) (v := .bool true) rfl (by kernel_rfl) (by kernel_rfl) (by kernel_rfl) (by decide) (fun _ _ _ h => h) h01 rfl hHeld (Or.inl ⟨by rfl, ?_⟩) ?_
  · (intro W9 hSw; obtain ⟨v1, v2, v3, v4, v5⟩ := hSw; have u1 := conv_RB v4; have u2 := conv_RB v5; rw [HST.out] at u1 u2; clear v4 v5; go_simp; (try (first | with_reducible rfl | rfl | (simp; done))))
  try simp only [Act.put, List.setIfInBounds_toArray, List.set_cons_zero, List.set_cons_succ]
  refine wpG_takeB (i := 18) (oi := ⟨some 43, _, _, _, _, _⟩) (v := .bool true) rfl (by kernel_rfl) (by kernel_rfl) (by kernel_rfl) (by decide) (fun _ _ _ h => h) h01 rfl hHeld (Or.inl ⟨by rfl, ?_⟩) ?_
  · (intro W9 hSw; obtain ⟨v1, v2, v3, v4, v5⟩ := hSw; have u1 := conv_RB v4; have u2 := conv_RB v5; rw [HST.out] at u1 u2; clear v4 v5; go_simp; (try (first | with_reducible rfl | rfl | (simp; done))))
  try simp only [Act.put, List.setIfInBounds_toArray, List.set_cons_zero, List.set_cons_succ]
  refine wpG_oneB (i := 19) (o := ⟨some 44, _, _, _, _, _⟩) (by kernel_rfl) rfl rfl (fun K hK => ?_)
  go_simp
  (with_reducible refine (known_any wb).mono ?_); rintro e wc ⟨rfl, bwc⟩
  have Swc := Lib.hid (Swb.out.below bwc)
  have HBBwc := Lib.hid (HBBwb.out.trans (bwc.mono HBBwb.out.size))
  clear bwc
  refine hK.out _ _ Swc.out (fun hHeld => ?_)
  clear hK K
  try simp only [Act.put, List.setIfInBounds_toArray, List.set_cons_zero, List.set_cons_succ]
  refine wpG_takeB (i := 20) (oi := ⟨some 45, _, _, _, _, _⟩) (v := .bool true) rfl (by kernel_rfl) (by kernel_rfl) (by kernel_rfl) (by decide) (fun _ _ _ h => h) h01 rfl hHeld (Or.inl ⟨by rfl, ?_⟩) ?_
  · (intro W9 hSw; obtain ⟨v1, v2, v3, v4, v5⟩ := hSw; have u1 := conv_RB v4; have u2 := conv_RB v5; rw [HST.out] at u1 u2; clear v4 v5; go_simp; (try (first | with_reducible rfl | rfl | (simp; done))))
  try simp only [Act.put, List.setIfInBounds_toArray, List.set_cons_zero, List.set_cons_succ]
  refine wpG_takeB (i := 21) (oi := ⟨some 4, _, _, _, _, _⟩) (v := .bool true) rfl (by kernel_rfl) (by kernel_rfl) (by kernel_rfl) (by decide) (fun _ _ _ h => h) h01 rfl hHeld (Or.inl ⟨by rfl, ?_⟩) ?_
  · (intro W9 hSw; obtain ⟨v1, v2, v3, v4, v5⟩ := hSw; have u1 := conv_RB v4; have u2 := conv_RB v5; rw [HST.out] at u1 u2; clear v4 v5; go_simp; (try (first | with_reducible rfl | rfl | (simp; done))))
  try simp only [Act.put, List.setIfInBounds_toArray, List.set_cons_zero, List.set_cons_succ]
  refine wpG_done (by kernel_rfl) ?_ _
  clear hHeld h01
  go_wp2_with fail
  go_ret
  exact ⟨rfl, HBBwc.out⟩
theorem encodes_law (k m c : Int) (L : Option Addr) (len cL : Nat) (f : Nat → Pk) (w : World) (_ : (Lit.int .i64 k).wf = true) (_ : (Lit.int .i64 m).wf = true) (_ : (Lit.int .i64 c).wf = true) (hs : PSS w L len f) :
    Calls Try.prog 3 #[.agg #[.int .i64 k, .int .i64 m, .int .i64 c], .slice L len cL] w fun e w' => e = .returned (.bool true) ∧ Below w.heap.size w w' := encodes_any k m c L len cL f w hs
end Go.Proofs.Ytibkhjpjneoabaa

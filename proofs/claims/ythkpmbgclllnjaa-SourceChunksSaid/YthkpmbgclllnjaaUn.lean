/- Until, Feed, Close, New, Copy. -/
import Derived.Test.YthkpmbgclllnjaaTk
namespace Go.Proofs.Ythkpmbgclllnjaa
open Go.RowKit
set_option linter.unusedVariables false
set_option linter.unusedSimpArgs false
attribute [local go_sem] fld0 fld1 fld2

def FW (a b d : Nat) (n : Int) (y : Int) (p : Option Addr) (W : World) : Prop := W.cell? ⟨a, 0, none⟩ = some (.pointer p) ∧ W.cell? ⟨b, 0, none⟩ = some (.int .u8 y) ∧ W.cell? ⟨d, 0, none⟩ = some (.int .i64 n)


set_option maxRecDepth 100000 in
set_option maxHeartbeats 1000000 in
theorem until_err (p q : Option Addr) (lm E : Int) (cl : Bool) (h0 : 0 ≤ lm) (h1 : lm ≤ 1048576) (hE : (E == 0) = false) (y n : Int) (w : World) (h32 : ∀ W, Below w.heap.size w W → Calls Try.prog 32 #[.pointer p] W fun e w' => e = .returned (.agg #[.pointer q, .int .i64 lm, .bool cl]) ∧ Below W.heap.size W w') (h31 : ∀ W, Below w.heap.size w W → Blk W w.heap.size 24 #[.pointer p] → Blk W (w.heap.size + 1) 5 #[.int .u8 y] → Blk W (w.heap.size + 1 + 1) 3 #[.int .i64 n] → Calls Try.prog 31 #[.pointer p, .int .i64 n, .int .i64 (lm - 1), .func (.func 33) #[] #[.pointer (some ⟨w.heap.size, 0, none⟩), .pointer (some ⟨w.heap.size + 1 + 1, 0, none⟩), .pointer (some ⟨w.heap.size + 1, 0, none⟩)]] W fun e w' => ∃ A m c k x, e = .returned (.tuple #[.slice A m c, .int .i64 k, .int .i64 x]) ∧ (A = none ∧ m = 0 ∧ c = 0 ∧ x = E)  ∧ Below W.heap.size W w') :
    Calls Try.prog 12 #[.pointer p, .int .u8 y, .int .i64 n] w fun e w' => e = .returned (.tuple #[.slice none 0 0, .int .i64 E]) ∧ Below w.heap.size w w' := by
  obtain ⟨w0, hW0⟩ : ∃ w0, ((w.alloc (.cells #[.pointer p] 24)).alloc (.cells #[.int .u8 y] 5)).alloc (.cells #[.int .i64 n] 3) = w0 := ⟨_, rfl⟩
  have HW0 := Lib.hid hW0
  have HBW := Lib.hid (show Below w.heap.size w w0 from hW0 ▸ (((Below.refl _ w).alloc (Nat.le_refl _) _).alloc (by simp) _).alloc (by simp; omega) _)
  have k1 : Blk w0 w.heap.size 24 #[.pointer p] := hW0 ▸ ((Blk.new w 24 _).alloc _).alloc _
  have k2 : Blk w0 (w.heap.size + 1) 5 #[.int .u8 y] := by have := (Blk.new (w.alloc (.cells #[.pointer p] 24)) 5 #[.int .u8 y]).alloc (.cells #[.int .i64 n] 3); rw [World.size_alloc, hW0] at this; exact this
  have k3 : Blk w0 (w.heap.size + 1 + 1) 3 #[.int .i64 n] := by have := Blk.new ((w.alloc (.cells #[.pointer p] 24)).alloc (.cells #[.int .u8 y] 5)) 3 #[.int .i64 n]; rw [World.size_alloc, World.size_alloc, hW0] at this; exact this
  have HK1 := Lib.hid k1
  have HK2 := Lib.hid k2
  have HK3 := Lib.hid k3
  have hs : FW w.heap.size (w.heap.size + 1) (w.heap.size + 1 + 1) n y p w0.drew := ⟨k1.cell 0, k2.cell 0, k3.cell 0⟩
  have HS := Lib.hid hs
  have H32 := Lib.hid (h32 w0.drew (below_drew HBW.out))
  have H31 := Lib.hid h31
  clear hW0 k1 k2 k3 hs h32 h31
  go_enter Try.func12, Try.ntmps12
  go_wp2_with fail
  rw [HW0.out]
  refine wp_region_G (S0 := (FW w.heap.size (w.heap.size + 1) (w.heap.size + 1 + 1) n y p)) (S1 := (FW w.heap.size (w.heap.size + 1) (w.heap.size + 1 + 1) n y p)) (c := 99) (by kernel_rfl) ?_
  have hHeld := HS.out
  have h01 := (fun (W : World) (h : (FW w.heap.size (w.heap.size + 1) (w.heap.size + 1 + 1) n y p) W) => h)
  refine wpG_takeB (i := 0) (oi := ⟨some 12, _, _, _, _, _⟩) (v := .pointer p) rfl (by kernel_rfl) (by kernel_rfl) (by kernel_rfl) (by decide) (fun _ _ _ h => h) h01 rfl hHeld (Or.inl ⟨by rfl, ?_⟩) ?_
  · (intro W9 hSw; obtain ⟨v1, v2, v3⟩ := hSw; go_simp; (try (first | with_reducible rfl | rfl | exact IntWalk.i64_in _ (by omega))))
  try simp only [Act.put, List.setIfInBounds_toArray, List.set_cons_zero, List.set_cons_succ]
  refine wpG_takeB (i := 1) (oi := ⟨some 13, _, _, _, _, _⟩) (v := .int .i64 n) rfl (by kernel_rfl) (by kernel_rfl) (by kernel_rfl) (by decide) (fun _ _ _ h => h) h01 rfl hHeld (Or.inl ⟨by rfl, ?_⟩) ?_
  · (intro W9 hSw; obtain ⟨v1, v2, v3⟩ := hSw; go_simp; (try (first | with_reducible rfl | rfl | exact IntWalk.i64_in _ (by omega))))
  try simp only [Act.put, List.setIfInBounds_toArray, List.set_cons_zero, List.set_cons_succ]
  refine wpG_takeB (i := 2) (oi := ⟨some 14, _, _, _, _, _⟩) (v := .pointer p) rfl (by kernel_rfl) (by kernel_rfl) (by kernel_rfl) (by decide) (fun _ _ _ h => h) h01 rfl hHeld (Or.inl ⟨by rfl, ?_⟩) ?_
  · (intro W9 hSw; obtain ⟨v1, v2, v3⟩ := hSw; go_simp; (try (first | with_reducible rfl | rfl | exact IntWalk.i64_in _ (by omega))))
  try simp only [Act.put, List.setIfInBounds_toArray, List.set_cons_zero, List.set_cons_succ]
  refine wpG_takeB (i := 6) (oi := ⟨some 18, _, _, _, _, _⟩) (v := .func (.func 33) #[] #[.pointer (some ⟨w.heap.size, 0, none⟩), .pointer (some ⟨w.heap.size + 1 + 1, 0, none⟩), .pointer (some ⟨w.heap.size + 1, 0, none⟩)]) rfl (by kernel_rfl) (by kernel_rfl) (by kernel_rfl) (by decide) (fun _ _ _ h => h) h01 rfl hHeld (Or.inl ⟨by rfl, ?_⟩) ?_
  · (intro W9 hSw; obtain ⟨v1, v2, v3⟩ := hSw; go_simp; (try (first | with_reducible rfl | rfl | exact IntWalk.i64_in _ (by omega))))
  try simp only [Act.put, List.setIfInBounds_toArray, List.set_cons_zero, List.set_cons_succ]
  refine wpG_oneB (i := 3) (o := ⟨some 15, _, _, _, _, _⟩) (by kernel_rfl) rfl rfl (fun K hK => ?_)
  go_simp
  (with_reducible refine H32.out.mono ?_); rintro e w1 ⟨rfl, b1⟩
  have HB1 := Lib.hid (show Below w0.heap.size w0 w1 from (below_drew (Below.refl w0.heap.size w0)).trans b1)
  clear b1
  refine hK.out _ _ (⟨(HK1.out.below HB1.out HK1.out.lt).cell 0, (HK2.out.below HB1.out HK2.out.lt).cell 0, (HK3.out.below HB1.out HK3.out.lt).cell 0⟩ : FW w.heap.size (w.heap.size + 1) (w.heap.size + 1 + 1) n y p w1) (fun hHeld => ?_)
  clear hK K
  try simp only [Act.put, List.setIfInBounds_toArray, List.set_cons_zero, List.set_cons_succ]
  refine wpG_takeB (i := 4) (oi := ⟨some 16, _, _, _, _, _⟩) (v := .int .i64 lm) rfl (by kernel_rfl) (by kernel_rfl) (by kernel_rfl) (by decide) (fun _ _ _ h => h) h01 rfl hHeld (Or.inl ⟨by rfl, ?_⟩) ?_
  · (intro W9 hSw; obtain ⟨v1, v2, v3⟩ := hSw; go_simp; (try (first | with_reducible rfl | rfl | exact IntWalk.i64_in _ (by omega))))
  try simp only [Act.put, List.setIfInBounds_toArray, List.set_cons_zero, List.set_cons_succ]
  refine wpG_takeB (i := 5) (oi := ⟨some 17, _, _, _, _, _⟩) (v := .int .i64 (lm - 1)) rfl (by kernel_rfl) (by kernel_rfl) (by kernel_rfl) (by decide) (fun _ _ _ h => h) h01 rfl hHeld (Or.inl ⟨by rfl, ?_⟩) ?_
  · (intro W9 hSw; obtain ⟨v1, v2, v3⟩ := hSw; go_simp; (try (first | with_reducible rfl | rfl | exact IntWalk.i64_in _ (by omega))))
  try simp only [Act.put, List.setIfInBounds_toArray, List.set_cons_zero, List.set_cons_succ]
  refine wpG_oneB (i := 7) (o := ⟨some 19, _, _, _, _, _⟩) (by kernel_rfl) rfl rfl (fun K hK => ?_)
  go_simp
  (with_reducible refine (H31.out w1 (HBW.out.trans (HB1.out.mono HBW.out.size)) (HK1.out.below HB1.out HK1.out.lt) (HK2.out.below HB1.out HK2.out.lt) (HK3.out.below HB1.out HK3.out.lt)).mono ?_); rintro e w2 ⟨A, m, c, k, x, rfl, hR, b2⟩
  have HR := Lib.hid hR
  have HB2 := Lib.hid (HB1.out.trans (b2.mono HB1.out.size))
  clear b2 hR
  refine hK.out _ _ (⟨(HK1.out.below HB2.out HK1.out.lt).cell 0, (HK2.out.below HB2.out HK2.out.lt).cell 0, (HK3.out.below HB2.out HK3.out.lt).cell 0⟩ : FW w.heap.size (w.heap.size + 1) (w.heap.size + 1 + 1) n y p w2) (fun hHeld => ?_)
  clear hK K
  try simp only [Act.put, List.setIfInBounds_toArray, List.set_cons_zero, List.set_cons_succ]
  refine wpG_takeB (i := 8) (oi := ⟨some 11, _, _, _, _, _⟩) (v := .tuple #[.slice A m c, .int .i64 k, .int .i64 x]) rfl (by kernel_rfl) (by kernel_rfl) (by kernel_rfl) (by decide) (fun _ _ _ h => h) h01 rfl hHeld (Or.inl ⟨by rfl, ?_⟩) ?_
  · (intro W9 hSw; obtain ⟨v1, v2, v3⟩ := hSw; go_simp; (try (first | with_reducible rfl | rfl | exact IntWalk.i64_in _ (by omega))))
  try simp only [Act.put, List.setIfInBounds_toArray, List.set_cons_zero, List.set_cons_succ]
  refine wpG_takeB (i := 9) (oi := ⟨some 20, _, _, _, _, _⟩) (v := .slice A m c) rfl (by kernel_rfl) (by kernel_rfl) (by kernel_rfl) (by decide) (fun _ _ _ h => h) h01 rfl hHeld (Or.inl ⟨by rfl, ?_⟩) ?_
  · (intro W9 hSw; obtain ⟨v1, v2, v3⟩ := hSw; go_simp; (try (first | with_reducible rfl | rfl | exact IntWalk.i64_in _ (by omega))))
  try simp only [Act.put, List.setIfInBounds_toArray, List.set_cons_zero, List.set_cons_succ]
  refine wpG_takeB (i := 10) (oi := ⟨some 21, _, _, _, _, _⟩) (v := .int .i64 k) rfl (by kernel_rfl) (by kernel_rfl) (by kernel_rfl) (by decide) (fun _ _ _ h => h) h01 rfl hHeld (Or.inl ⟨by rfl, ?_⟩) ?_
  · (intro W9 hSw; obtain ⟨v1, v2, v3⟩ := hSw; go_simp; (try (first | with_reducible rfl | rfl | exact IntWalk.i64_in _ (by omega))))
  try simp only [Act.put, List.setIfInBounds_toArray, List.set_cons_zero, List.set_cons_succ]
  refine wpG_takeB (i := 11) (oi := ⟨some 22, _, _, _, _, _⟩) (v := .int .i64 x) rfl (by kernel_rfl) (by kernel_rfl) (by kernel_rfl) (by decide) (fun _ _ _ h => h) h01 rfl hHeld (Or.inl ⟨by rfl, ?_⟩) ?_
  · (intro W9 hSw; obtain ⟨v1, v2, v3⟩ := hSw; go_simp; (try (first | with_reducible rfl | rfl | exact IntWalk.i64_in _ (by omega))))
  try simp only [Act.put, List.setIfInBounds_toArray, List.set_cons_zero, List.set_cons_succ]
  refine wpG_takeB (i := 12) (oi := ⟨some 8, _, _, _, _, _⟩) (v := .slice A m c) rfl (by kernel_rfl) (by kernel_rfl) (by kernel_rfl) (by decide) (fun _ _ _ h => h) h01 rfl hHeld (Or.inl ⟨by rfl, ?_⟩) ?_
  · (intro W9 hSw; obtain ⟨v1, v2, v3⟩ := hSw; go_simp; (try (first | with_reducible rfl | rfl | exact IntWalk.i64_in _ (by omega))))
  try simp only [Act.put, List.setIfInBounds_toArray, List.set_cons_zero, List.set_cons_succ]
  refine wpG_takeB (i := 13) (oi := ⟨some 9, _, _, _, _, _⟩) (v := .int .i64 k) rfl (by kernel_rfl) (by kernel_rfl) (by kernel_rfl) (by decide) (fun _ _ _ h => h) h01 rfl hHeld (Or.inl ⟨by rfl, ?_⟩) ?_
  · (intro W9 hSw; obtain ⟨v1, v2, v3⟩ := hSw; go_simp; (try (first | with_reducible rfl | rfl | exact IntWalk.i64_in _ (by omega))))
  try simp only [Act.put, List.setIfInBounds_toArray, List.set_cons_zero, List.set_cons_succ]
  refine wpG_takeB (i := 14) (oi := ⟨some 10, _, _, _, _, _⟩) (v := .int .i64 x) rfl (by kernel_rfl) (by kernel_rfl) (by kernel_rfl) (by decide) (fun _ _ _ h => h) h01 rfl hHeld (Or.inl ⟨by rfl, ?_⟩) ?_
  · (intro W9 hSw; obtain ⟨v1, v2, v3⟩ := hSw; go_simp; (try (first | with_reducible rfl | rfl | exact IntWalk.i64_in _ (by omega))))
  try simp only [Act.put, List.setIfInBounds_toArray, List.set_cons_zero, List.set_cons_succ]
  refine wpG_done (by kernel_rfl) ?_ _
  clear hHeld h01
  obtain ⟨rfl, rfl, rfl, rfl⟩ := HR.out
  go_wp2_with fail
  exact bodyPost_ret (v := .tuple #[.slice none 0 0, .int .i64 x]) (by simp [results, Try.results12, go_sem]) rfl ⟨rfl, HBW.out.trans (HB2.out.mono HBW.out.size)⟩

set_option maxRecDepth 100000 in
set_option maxHeartbeats 1000000 in
theorem until_good (p : Option Addr) (bs bt bb B lim tk at_ : Nat) (v : Value) (l : List UInt8) (cl : Bool) (lm : Int) (hlm : lm = lim) (hp : p = some ⟨bs, 0, none⟩) (hat : at_ + 1 ≤ l.length) (htk : tk + l.length ≤ 4000000000) (y n : Int) (w : World) (h : SS w B bs bt bb v lim l tk cl) (h31 : ∀ W, Below w.heap.size w W → Blk W w.heap.size 24 #[.pointer p] → Blk W (w.heap.size + 1) 5 #[.int .u8 y] → Blk W (w.heap.size + 1 + 1) 3 #[.int .i64 n] → Calls Try.prog 31 #[.pointer p, .int .i64 n, .int .i64 (lm - 1), .func (.func 33) #[] #[.pointer (some ⟨w.heap.size, 0, none⟩), .pointer (some ⟨w.heap.size + 1 + 1, 0, none⟩), .pointer (some ⟨w.heap.size + 1, 0, none⟩)]] W fun e w' => ∃ A m c k x, e = .returned (.tuple #[.slice A m c, .int .i64 k, .int .i64 x]) ∧ (m = at_ ∧ k = at_ ∧ x = 0 ∧ w'.ownsRow w.heap.size 5 1 (.slice A at_ c) at_ ((l.take at_).map u8)) ∧ Below W.heap.size W w') :
    Calls Try.prog 12 #[.pointer p, .int .u8 y, .int .i64 n] w fun e w' => ∃ A c, e = .returned (.tuple #[.slice A at_ c, .int .i64 0]) ∧ Took w w' B bs bt bb v lim l tk cl A c at_ (at_ + 1) := by
  obtain ⟨w0, hW0⟩ : ∃ w0, ((w.alloc (.cells #[.pointer p] 24)).alloc (.cells #[.int .u8 y] 5)).alloc (.cells #[.int .i64 n] 3) = w0 := ⟨_, rfl⟩
  have HW0 := Lib.hid hW0
  have HBW := Lib.hid (show Below w.heap.size w w0 from hW0 ▸ (((Below.refl _ w).alloc (Nat.le_refl _) _).alloc (by simp) _).alloc (by simp; omega) _)
  have k1 : Blk w0 w.heap.size 24 #[.pointer p] := hW0 ▸ ((Blk.new w 24 _).alloc _).alloc _
  have k2 : Blk w0 (w.heap.size + 1) 5 #[.int .u8 y] := by have := (Blk.new (w.alloc (.cells #[.pointer p] 24)) 5 #[.int .u8 y]).alloc (.cells #[.int .i64 n] 3); rw [World.size_alloc, hW0] at this; exact this
  have k3 : Blk w0 (w.heap.size + 1 + 1) 3 #[.int .i64 n] := by have := Blk.new ((w.alloc (.cells #[.pointer p] 24)).alloc (.cells #[.int .u8 y] 5)) 3 #[.int .i64 n]; rw [World.size_alloc, World.size_alloc, hW0] at this; exact this
  have HK1 := Lib.hid k1
  have HK2 := Lib.hid k2
  have HK3 := Lib.hid k3
  have hs : FW w.heap.size (w.heap.size + 1) (w.heap.size + 1 + 1) n y p w0.drew := ⟨k1.cell 0, k2.cell 0, k3.cell 0⟩
  have HS := Lib.hid hs
  have H32 := Lib.hid (show Calls Try.prog 32 #[.pointer p] w0.drew fun e w' => e = .returned (.agg #[.pointer (some ⟨bb, 0, none⟩), .int .i64 lm, .bool cl]) ∧ Below w0.drew.heap.size w0.drew w' from hp ▸ hlm ▸ get_some bs bt bb lim cl w0.drew (h.below (below_drew HBW.out)).src (h.below (below_drew HBW.out)).st)
  have H31 := Lib.hid h31
  have hl : l.length ≤ 1048576 := Nat.le_trans h.lenB h.limB
  have HL := Lib.hid (And.intro hat (And.intro hl htk))
  have H := Lib.hid h
  have HPP := Lib.hid hp
  have h0 : 0 ≤ lm := by omega
  have h1 : lm ≤ 1048576 := by have := h.limB; omega
  clear h hat htk hl hp hlm
  clear hW0 k1 k2 k3 hs h31
  go_enter Try.func12, Try.ntmps12
  go_wp2_with fail
  rw [HW0.out]
  refine wp_region_G (S0 := (FW w.heap.size (w.heap.size + 1) (w.heap.size + 1 + 1) n y p)) (S1 := (FW w.heap.size (w.heap.size + 1) (w.heap.size + 1 + 1) n y p)) (c := 99) (by kernel_rfl) ?_
  have hHeld := HS.out
  have h01 := (fun (W : World) (h : (FW w.heap.size (w.heap.size + 1) (w.heap.size + 1 + 1) n y p) W) => h)
  refine wpG_takeB (i := 0) (oi := ⟨some 12, _, _, _, _, _⟩) (v := .pointer p) rfl (by kernel_rfl) (by kernel_rfl) (by kernel_rfl) (by decide) (fun _ _ _ h => h) h01 rfl hHeld (Or.inl ⟨by rfl, ?_⟩) ?_
  · (intro W9 hSw; obtain ⟨v1, v2, v3⟩ := hSw; go_simp; (try (first | with_reducible rfl | rfl | exact IntWalk.i64_in _ (by omega))))
  try simp only [Act.put, List.setIfInBounds_toArray, List.set_cons_zero, List.set_cons_succ]
  refine wpG_takeB (i := 1) (oi := ⟨some 13, _, _, _, _, _⟩) (v := .int .i64 n) rfl (by kernel_rfl) (by kernel_rfl) (by kernel_rfl) (by decide) (fun _ _ _ h => h) h01 rfl hHeld (Or.inl ⟨by rfl, ?_⟩) ?_
  · (intro W9 hSw; obtain ⟨v1, v2, v3⟩ := hSw; go_simp; (try (first | with_reducible rfl | rfl | exact IntWalk.i64_in _ (by omega))))
  try simp only [Act.put, List.setIfInBounds_toArray, List.set_cons_zero, List.set_cons_succ]
  refine wpG_takeB (i := 2) (oi := ⟨some 14, _, _, _, _, _⟩) (v := .pointer p) rfl (by kernel_rfl) (by kernel_rfl) (by kernel_rfl) (by decide) (fun _ _ _ h => h) h01 rfl hHeld (Or.inl ⟨by rfl, ?_⟩) ?_
  · (intro W9 hSw; obtain ⟨v1, v2, v3⟩ := hSw; go_simp; (try (first | with_reducible rfl | rfl | exact IntWalk.i64_in _ (by omega))))
  try simp only [Act.put, List.setIfInBounds_toArray, List.set_cons_zero, List.set_cons_succ]
  refine wpG_takeB (i := 6) (oi := ⟨some 18, _, _, _, _, _⟩) (v := .func (.func 33) #[] #[.pointer (some ⟨w.heap.size, 0, none⟩), .pointer (some ⟨w.heap.size + 1 + 1, 0, none⟩), .pointer (some ⟨w.heap.size + 1, 0, none⟩)]) rfl (by kernel_rfl) (by kernel_rfl) (by kernel_rfl) (by decide) (fun _ _ _ h => h) h01 rfl hHeld (Or.inl ⟨by rfl, ?_⟩) ?_
  · (intro W9 hSw; obtain ⟨v1, v2, v3⟩ := hSw; go_simp; (try (first | with_reducible rfl | rfl | exact IntWalk.i64_in _ (by omega))))
  try simp only [Act.put, List.setIfInBounds_toArray, List.set_cons_zero, List.set_cons_succ]
  refine wpG_oneB (i := 3) (o := ⟨some 15, _, _, _, _, _⟩) (by kernel_rfl) rfl rfl (fun K hK => ?_)
  go_simp
  (with_reducible refine H32.out.mono ?_); rintro e w1 ⟨rfl, b1⟩
  have HB1 := Lib.hid (show Below w0.heap.size w0 w1 from (below_drew (Below.refl w0.heap.size w0)).trans b1)
  clear b1
  refine hK.out _ _ (⟨(HK1.out.below HB1.out HK1.out.lt).cell 0, (HK2.out.below HB1.out HK2.out.lt).cell 0, (HK3.out.below HB1.out HK3.out.lt).cell 0⟩ : FW w.heap.size (w.heap.size + 1) (w.heap.size + 1 + 1) n y p w1) (fun hHeld => ?_)
  clear hK K
  try simp only [Act.put, List.setIfInBounds_toArray, List.set_cons_zero, List.set_cons_succ]
  refine wpG_takeB (i := 4) (oi := ⟨some 16, _, _, _, _, _⟩) (v := .int .i64 lm) rfl (by kernel_rfl) (by kernel_rfl) (by kernel_rfl) (by decide) (fun _ _ _ h => h) h01 rfl hHeld (Or.inl ⟨by rfl, ?_⟩) ?_
  · (intro W9 hSw; obtain ⟨v1, v2, v3⟩ := hSw; go_simp; (try (first | with_reducible rfl | rfl | exact IntWalk.i64_in _ (by omega))))
  try simp only [Act.put, List.setIfInBounds_toArray, List.set_cons_zero, List.set_cons_succ]
  refine wpG_takeB (i := 5) (oi := ⟨some 17, _, _, _, _, _⟩) (v := .int .i64 (lm - 1)) rfl (by kernel_rfl) (by kernel_rfl) (by kernel_rfl) (by decide) (fun _ _ _ h => h) h01 rfl hHeld (Or.inl ⟨by rfl, ?_⟩) ?_
  · (intro W9 hSw; obtain ⟨v1, v2, v3⟩ := hSw; go_simp; (try (first | with_reducible rfl | rfl | exact IntWalk.i64_in _ (by omega))))
  try simp only [Act.put, List.setIfInBounds_toArray, List.set_cons_zero, List.set_cons_succ]
  refine wpG_oneB (i := 7) (o := ⟨some 19, _, _, _, _, _⟩) (by kernel_rfl) rfl rfl (fun K hK => ?_)
  go_simp
  (with_reducible refine (H31.out w1 (HBW.out.trans (HB1.out.mono HBW.out.size)) (HK1.out.below HB1.out HK1.out.lt) (HK2.out.below HB1.out HK2.out.lt) (HK3.out.below HB1.out HK3.out.lt)).mono ?_); rintro e w2 ⟨A, m, c, k, x, rfl, hR, b2⟩
  have HR := Lib.hid hR
  have HB2 := Lib.hid (HB1.out.trans (b2.mono HB1.out.size))
  clear b2 hR
  refine hK.out _ _ (⟨(HK1.out.below HB2.out HK1.out.lt).cell 0, (HK2.out.below HB2.out HK2.out.lt).cell 0, (HK3.out.below HB2.out HK3.out.lt).cell 0⟩ : FW w.heap.size (w.heap.size + 1) (w.heap.size + 1 + 1) n y p w2) (fun hHeld => ?_)
  clear hK K
  try simp only [Act.put, List.setIfInBounds_toArray, List.set_cons_zero, List.set_cons_succ]
  refine wpG_takeB (i := 8) (oi := ⟨some 11, _, _, _, _, _⟩) (v := .tuple #[.slice A m c, .int .i64 k, .int .i64 x]) rfl (by kernel_rfl) (by kernel_rfl) (by kernel_rfl) (by decide) (fun _ _ _ h => h) h01 rfl hHeld (Or.inl ⟨by rfl, ?_⟩) ?_
  · (intro W9 hSw; obtain ⟨v1, v2, v3⟩ := hSw; go_simp; (try (first | with_reducible rfl | rfl | exact IntWalk.i64_in _ (by omega))))
  try simp only [Act.put, List.setIfInBounds_toArray, List.set_cons_zero, List.set_cons_succ]
  refine wpG_takeB (i := 9) (oi := ⟨some 20, _, _, _, _, _⟩) (v := .slice A m c) rfl (by kernel_rfl) (by kernel_rfl) (by kernel_rfl) (by decide) (fun _ _ _ h => h) h01 rfl hHeld (Or.inl ⟨by rfl, ?_⟩) ?_
  · (intro W9 hSw; obtain ⟨v1, v2, v3⟩ := hSw; go_simp; (try (first | with_reducible rfl | rfl | exact IntWalk.i64_in _ (by omega))))
  try simp only [Act.put, List.setIfInBounds_toArray, List.set_cons_zero, List.set_cons_succ]
  refine wpG_takeB (i := 10) (oi := ⟨some 21, _, _, _, _, _⟩) (v := .int .i64 k) rfl (by kernel_rfl) (by kernel_rfl) (by kernel_rfl) (by decide) (fun _ _ _ h => h) h01 rfl hHeld (Or.inl ⟨by rfl, ?_⟩) ?_
  · (intro W9 hSw; obtain ⟨v1, v2, v3⟩ := hSw; go_simp; (try (first | with_reducible rfl | rfl | exact IntWalk.i64_in _ (by omega))))
  try simp only [Act.put, List.setIfInBounds_toArray, List.set_cons_zero, List.set_cons_succ]
  refine wpG_takeB (i := 11) (oi := ⟨some 22, _, _, _, _, _⟩) (v := .int .i64 x) rfl (by kernel_rfl) (by kernel_rfl) (by kernel_rfl) (by decide) (fun _ _ _ h => h) h01 rfl hHeld (Or.inl ⟨by rfl, ?_⟩) ?_
  · (intro W9 hSw; obtain ⟨v1, v2, v3⟩ := hSw; go_simp; (try (first | with_reducible rfl | rfl | exact IntWalk.i64_in _ (by omega))))
  try simp only [Act.put, List.setIfInBounds_toArray, List.set_cons_zero, List.set_cons_succ]
  refine wpG_takeB (i := 12) (oi := ⟨some 8, _, _, _, _, _⟩) (v := .slice A m c) rfl (by kernel_rfl) (by kernel_rfl) (by kernel_rfl) (by decide) (fun _ _ _ h => h) h01 rfl hHeld (Or.inl ⟨by rfl, ?_⟩) ?_
  · (intro W9 hSw; obtain ⟨v1, v2, v3⟩ := hSw; go_simp; (try (first | with_reducible rfl | rfl | exact IntWalk.i64_in _ (by omega))))
  try simp only [Act.put, List.setIfInBounds_toArray, List.set_cons_zero, List.set_cons_succ]
  refine wpG_takeB (i := 13) (oi := ⟨some 9, _, _, _, _, _⟩) (v := .int .i64 k) rfl (by kernel_rfl) (by kernel_rfl) (by kernel_rfl) (by decide) (fun _ _ _ h => h) h01 rfl hHeld (Or.inl ⟨by rfl, ?_⟩) ?_
  · (intro W9 hSw; obtain ⟨v1, v2, v3⟩ := hSw; go_simp; (try (first | with_reducible rfl | rfl | exact IntWalk.i64_in _ (by omega))))
  try simp only [Act.put, List.setIfInBounds_toArray, List.set_cons_zero, List.set_cons_succ]
  refine wpG_takeB (i := 14) (oi := ⟨some 10, _, _, _, _, _⟩) (v := .int .i64 x) rfl (by kernel_rfl) (by kernel_rfl) (by kernel_rfl) (by decide) (fun _ _ _ h => h) h01 rfl hHeld (Or.inl ⟨by rfl, ?_⟩) ?_
  · (intro W9 hSw; obtain ⟨v1, v2, v3⟩ := hSw; go_simp; (try (first | with_reducible rfl | rfl | exact IntWalk.i64_in _ (by omega))))
  try simp only [Act.put, List.setIfInBounds_toArray, List.set_cons_zero, List.set_cons_succ]
  refine wpG_done (by kernel_rfl) ?_ _
  clear hHeld h01
  obtain ⟨rfl, rfl, rfl, ho⟩ := HR.out
  have hpp := HPP.out
  clear HPP
  subst hpp
  have HO := Lib.hid ho
  have HBX := Lib.hid (HBW.out.trans (HB2.out.mono HBW.out.size))
  have h2 := H.out.below HBX.out
  have e0 := h2.src.cell 0
  have e1 := h2.st.cell 0
  simp at e0 e1
  have e3 := (HK1.out.below HB2.out HK1.out.lt).cell 0
  simp at e3
  have C30 := Lib.hid (take_any B bb v l tk (m + 1) w2 h2.buf h2.own HL.out.1 HL.out.2.1 h2.tkB)
  have q1 : (m : Int) ≤ 1048576 := by have := HL.out; omega
  have q0 : (0 : Int) ≤ m := by omega
  have HWR := Lib.hid (show ((m + 1 : Nat) : Int) = (m : Int) + 1 by omega)
  rw [HWR.out] at C30
  clear h2 ho
  go_wp2_with (go_at_call 30; (with_reducible refine C30.out.mono ?_); rintro e w4 ⟨rfl, v', k1, k2, k3⟩; have K1 := Lib.hid k1; have K2 := Lib.hid k2; have K3 := Lib.hid k3; clear k1 k2 k3)
  exact bodyPost_ret (v := .tuple #[.slice A m c, .int .i64 0]) (by simp [results, Try.results12, go_sem]) rfl ⟨A, c, rfl, took_of H.out (by have := HL.out; omega) HBX.out HO.out K1.out K2.out K3.out⟩

theorem until_none (p : Option Addr) (y n : Int) (w : World) (h : NoSrc p w) :
    Calls Try.prog 12 #[.pointer p, .int .u8 y, .int .i64 n] w fun e w' => e = .returned (.tuple #[.slice none 0 0, .int .i64 1]) ∧ Below w.heap.size w w' :=
  until_err p none 0 1 false (by omega) (by omega) rfl y n w (fun W hb => get_none p W (h.below hb)) (fun W hb _ _ _ => (there33_none p _ _ _ n _ W (h.below hb)).mono fun e w' ⟨he, hb'⟩ => ⟨none, 0, 0, 0, 1, he, ⟨rfl, rfl, rfl, rfl⟩, hb'⟩)
section
variable {w : World} {B bs bt bb : Nat} {v : Value} {lim : Nat} {l : List UInt8} {tk : Nat} {cl : Bool}
theorem until_bad (h : SS w B bs bt bb v lim l tk cl) (x : UInt8) (n : Int) (hE : untilE lim cl l x n ≠ 0) :
    Calls Try.prog 12 #[.pointer (some ⟨bs, 0, none⟩), .int .u8 (x.toNat : Int), .int .i64 n] w fun e w' => e = .returned (.tuple #[.slice none 0 0, .int .i64 (untilE lim cl l x n)]) ∧ Below w.heap.size w w' := by
  have hlb := h.limB
  refine until_err _ (some ⟨bb, 0, none⟩) lim (untilE lim cl l x n) cl (by omega) (by omega) (by simpa using hE) _ n w (fun W hb => get_some bs bt bb lim cl W (h.below hb).src (h.below hb).st) (fun W hb h1 h2 h3 => ?_)
  refine (there33_bad _ _ _ n ((lim : Int) - 1) (if atB l x n < 0 ∧ n < l.length then 0 else atB l x n) (if atB l x n < 0 ∧ n < l.length then 5 else 0) (untilE lim cl l x n) B bs bt bb v lim l tk cl W (h.below hb) (fun g0 g1 => ?_) ?_).mono fun e w' ⟨he, hb'⟩ => ⟨none, 0, 0, 0, _, he, ⟨rfl, rfl, rfl, rfl⟩, hb'⟩
  · obtain ⟨m, rfl⟩ := Int.eq_ofNat_of_zero_le g0
    have hf := find_until _ _ _ B bs bt bb v lim l tk cl m x W (h.below hb) h1 h3 h2 (by omega)
    have e1 : (atB l x m < 0 ∧ (m : Int) < l.length) ↔ (atB l x m < 0 ∧ m < l.length) := by omega
    simp only [e1]
    exact hf
  · unfold untilE at hE ⊢
    by_cases h1 : n < 0
    · exact .inl ⟨h1, by rw [if_pos h1]⟩
    · rw [if_neg h1] at hE ⊢
      by_cases h2 : (lim : Int) - 1 < n
      · exact .inr (.inl ⟨by omega, h2, by rw [if_pos h2]⟩)
      · rw [if_neg h2] at hE ⊢
        by_cases h3 : atB l x n < 0
        · rw [if_pos h3] at hE ⊢
          by_cases h4 : n < l.length
          · exact .inr (.inr ⟨by omega, by omega, .inl ⟨by rw [if_pos (show atB l x n < 0 ∧ n < l.length from ⟨h3, h4⟩)]; rfl, by rw [if_pos (show atB l x n < 0 ∧ n < l.length from ⟨h3, h4⟩), if_pos h4]⟩⟩)
          · exact .inr (.inr ⟨by omega, by omega, .inr ⟨by rw [if_neg (by omega)], by rw [if_neg (by omega)]; exact h3, by rw [if_neg h4]⟩⟩)
        · rw [if_neg h3] at hE
          exact absurd rfl hE
theorem untilE_ok {n : Int} {x : UInt8} (hE : untilE lim cl l x n = 0) : 0 ≤ n ∧ n < lim ∧ ∃ k : Nat, atB l x n = k ∧ k < l.length ∧ (k : Int) ≤ n := by
  unfold untilE at hE
  have hat := atB_le l x n
  split at hE
  · cases hE
  · split at hE
    · cases hE
    · split at hE
      · split at hE
        · cases hE
        · split at hE <;> cases hE
      · exact ⟨by omega, by omega, (atB l x n).toNat, by omega, by omega, by omega⟩
theorem until_ok (h : SS w B bs bt bb v lim l tk cl) (ht : tk + l.length ≤ 4000000000) (x : UInt8) (n k : Nat) (hn : n < lim) (hk : atB l x n = k) (hkl : k < l.length) :
    Calls Try.prog 12 #[.pointer (some ⟨bs, 0, none⟩), .int .u8 (x.toNat : Int), .int .i64 n] w fun e w' => ∃ A c, e = .returned (.tuple #[.slice A k c, .int .i64 0]) ∧ Took w w' B bs bt bb v lim l tk cl A c k (k + 1) := by
  refine until_good _ bs bt bb B lim tk k v l cl lim rfl rfl (by omega) ht _ n w h (fun W hb h1 h2 h3 => ?_)
  have hf := find_until _ _ _ B bs bt bb v lim l tk cl n x W (h.below hb) h1 h3 h2 hn
  rw [hk, if_neg (by omega), if_neg (by omega)] at hf
  exact (there33_ok _ _ _ n ((lim : Int) - 1) k B bs bt bb v lim l tk cl W (h.below hb) hf (by omega) (by omega) (by omega)).mono fun e w' ⟨A, c, he, ho, hb'⟩ => ⟨A, k, c, k, 0, he, ⟨rfl, rfl, rfl, own_base ho hb.size⟩, hb'⟩
end
end Go.Proofs.Ythkpmbgclllnjaa

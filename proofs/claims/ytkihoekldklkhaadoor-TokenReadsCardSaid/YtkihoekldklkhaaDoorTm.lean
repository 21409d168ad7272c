/- Scan, New. -/
import Derived.Test.YtkihoekldklkhaaDoorTl
namespace Go.Proofs.YtkihoekldklkhaaDoor
open Go.RowKit
set_option linter.unusedVariables false
set_option linter.unusedSimpArgs false

/-- What Scan returns. -/
def ScanE (L : List UInt8) (w : World) (e : Ending) (w' : World) : Prop := Below w.heap.size w w' ∧ match (scanL 0 L).2 with
  | none => ∃ A c, e = .returned (.tuple #[.slice A (scanL 0 L).1.length c, .agg #[.int .i64 0, .int .i64 0], .int .i64 0]) ∧ w'.ownsRow w.heap.size 32 5 (.slice A (scanL 0 L).1.length c) (scanL 0 L).1.length ((scanL 0 L).1.flatMap (TkC L))
  | some b => e = .returned (.tuple #[.slice none 0 0, .agg #[.int .i64 ((lcOf L b).1 : Int), .int .i64 ((lcOf L b).2 : Int)], .int .i64 (errN L b)])
theorem errN_cases (L : List UInt8) (b : Nat) : errN L b = 4 ∨ errN L b = 6 := by unfold errN; split <;> simp
theorem res20 (tmps : Array Value) (W : World) (v1 v3 : Value) (gp : Nat) (a b : Value) (h2 : tmps.getD 2 undef = v1) (h3 : tmps.getD 3 undef = .pointer (some ⟨gp, 0, none⟩)) (h4 : tmps.getD 4 undef = v3) (hp : Blk W gp 26 #[a, b]) : (results Tryd.f20 tmps).run Tryd.prog W = .ok (.tuple #[v1, .agg #[a, b], v3]) W := by
  have k3 := hp.cell 0
  have k5 := hp.cell 1
  simp at k3 k5 h2 h3 h4
  simp [results, Tryd.results20, go_sem, h2, h3, h4, k3, k5]
def Z2 (g1 g2 : Nat) (x y : Int) (W : World) : Prop := Blk W g1 26 #[.int .i64 0, .int .i64 0] ∧ Blk W g2 26 #[.int .i64 x, .int .i64 y]
def Z1 (g2 : Nat) (x y : Int) (W : World) : Prop := Blk W g2 26 #[.int .i64 x, .int .i64 y]
set_option maxRecDepth 100000 in
set_option maxHeartbeats 400000 in
theorem scanT_any (L : List UInt8) (w : World) (hn : L.length ≤ 1000000) : Calls Tryd.prog 20 #[.string ⟨L.toArray⟩] w (ScanE L w) := by
  have hb1 : Below w.heap.size w (w.alloc (.cells #[.int .i64 0, .int .i64 0] 26)) := (Below.refl _ w).alloc (Nat.le_refl _) _
  have C35 := Lib.hid (scanned_any L (w.alloc (.cells #[.int .i64 0, .int .i64 0] 26)) hn)
  have HB1 := Lib.hid hb1
  have HG1 := Lib.hid (Blk.new w 26 #[.int .i64 0, .int .i64 0])
  unfold ScdR at C35
  unfold ScanE
  obtain ⟨W1, hW1⟩ : ∃ W1, w.alloc (.cells #[.int .i64 0, .int .i64 0] 26) = W1 := ⟨_, rfl⟩
  rw [hW1] at C35 HB1 HG1
  have HW1 := Lib.hid hW1
  obtain ⟨R, hR⟩ : ∃ R, scanL 0 L = R := ⟨_, rfl⟩
  rw [hR] at C35 ⊢
  obtain ⟨ts, bo⟩ := R
  generalize (⟨L.toArray⟩ : ByteArray) = St at *
  obtain ⟨g1, hg1⟩ : ∃ g1, w.heap.size = g1 := ⟨_, rfl⟩
  rw [hg1] at HG1
  have HGG := Lib.hid hg1
  clear hn hb1 hW1 hR hg1
  cases bo with
  | none =>
    simp only [] at C35 ⊢
    go_enter Tryd.func20, Tryd.ntmps20
    go_upto_region 1 with fail
    rw [HW1.out, HGG.out]
    go_upto_region 4 with (go_at_call 35; (with_reducible refine C35.out.mono ?_); rintro e w2 ⟨hb2, v, rfl, hown⟩; obtain ⟨Av, cv, ev, -⟩ := own_formS hown; subst ev; have HB2 := Lib.hid hb2; have HWN := Lib.hid hown; clear hb2 hown)
    obtain ⟨W3, hW3⟩ : ∃ W3, w2.alloc (.cells #[.int .i64 0, .int .i64 0] 26) = W3 := ⟨_, rfl⟩
    have hb3 : Below w2.heap.size w2 W3 := hW3 ▸ (Below.refl _ w2).alloc (Nat.le_refl _) _
    have HZ0 : Hid (Blk W3 g1 26 #[.int .i64 0, .int .i64 0]) := Lib.hid ((HG1.out.below HB2.out HG1.out.lt).below hb3 (HG1.out.below HB2.out HG1.out.lt).lt)
    have HZ9 : Hid (Blk W3 w2.heap.size 26 #[.int .i64 0, .int .i64 0]) := Lib.hid (hW3 ▸ Blk.new w2 26 _)
    obtain ⟨g2, hg2⟩ : ∃ g2, w2.heap.size = g2 := ⟨_, rfl⟩
    rw [hg2] at HZ9
    have HZ1 : Hid (Z1 g2 0 0 W3.drew) := Lib.hid HZ9.out.drew1
    have HB3 := Lib.hid hb3
    rw [hW3, hg2]
    clear hW3 hg2 hb3
    refine wp_region_G (S0 := (Z1 g2 0 0)) (S1 := (fun _ : World => True)) (c := 4) (by kernel_rfl) ?_
    have hHeld := HZ1.out
    have h01 := (fun (W : World) (h : (Z1 g2 0 0) W) => trivial)
    refine wpG_takeA (i := 0) (oi := ⟨some 17, _, _, _, _, _⟩) (v := .slice Av ts.length cv) rfl (by kernel_rfl) (by kernel_rfl) (by kernel_rfl) (by decide) (fun _ _ _ h => h) h01 rfl hHeld (Or.inl ⟨by rfl, ?_⟩) ?_
    · (intro W9 hSw; go_simp; (try (first | with_reducible rfl | rfl | (simp; done))))
    try simp only [Act.put, List.setIfInBounds_toArray, List.set_cons_zero, List.set_cons_succ]
    refine wpG_take0 (i := 1) (oi := ⟨some 18, _, _, _, _, _⟩) (v := .agg #[.int .i64 0, .int .i64 0]) rfl (by kernel_rfl) (by kernel_rfl) (by kernel_rfl) (by decide) (by kernel_rfl) (fun _ _ _ h => h) rfl hHeld (Or.inl ⟨by rfl, ?_⟩) ?_
    · (intro W9 hSw; have v1 := hSw.cell 0; have v2 := hSw.cell 1; simp only [List.getElem?_toArray, List.getElem?_cons_zero, List.getElem?_cons_succ] at v1 v2; go_simp; (try (first | with_reducible rfl | rfl | (simp; done))))
    try simp only [Act.put, List.setIfInBounds_toArray, List.set_cons_zero, List.set_cons_succ]
    refine wpG_takeA (i := 2) (oi := ⟨some 19, _, _, _, _, _⟩) (v := .int .i64 0) rfl (by kernel_rfl) (by kernel_rfl) (by kernel_rfl) (by decide) (fun _ _ _ h => h) h01 rfl hHeld (Or.inl ⟨by rfl, ?_⟩) ?_
    · (intro W9 hSw; go_simp; (try (first | with_reducible rfl | rfl | (simp; done))))
    try simp only [Act.put, List.setIfInBounds_toArray, List.set_cons_zero, List.set_cons_succ]
    refine wpG_takeA (i := 3) (oi := ⟨some 2, _, _, _, _, _⟩) (v := .slice Av ts.length cv) rfl (by kernel_rfl) (by kernel_rfl) (by kernel_rfl) (by decide) (fun _ _ _ h => h) h01 rfl hHeld (Or.inl ⟨by rfl, ?_⟩) ?_
    · (intro W9 hSw; go_simp; (try (first | with_reducible rfl | rfl | (simp; done))))
    try simp only [Act.put, List.setIfInBounds_toArray, List.set_cons_zero, List.set_cons_succ]
    refine wpG_oneB (i := 4) (o := ⟨none, _, _, _, _, _⟩) (by kernel_rfl) rfl rfl (fun K hK => ?_)
    have kq0 := HZ0.out.cell 0
    have kq1 := HZ0.out.cell 1
    simp only [List.getElem?_toArray, List.getElem?_cons_zero, List.getElem?_cons_succ] at kq0 kq1
    have kz0 := HZ0.out.frozen 0
    have kz1 := HZ0.out.frozen 1
    go_simp
    clear kq0 kq1 kz0 kz1
    refine hK.out _ _ trivial (fun hHeld => ?_)
    clear hK K
    try simp only [Act.put, List.setIfInBounds_toArray, List.set_cons_zero, List.set_cons_succ]
    refine wpG_takeB (i := 5) (oi := ⟨some 4, _, _, _, _, _⟩) (v := .int .i64 0) rfl (by kernel_rfl) (by kernel_rfl) (by kernel_rfl) (by decide) (fun _ _ _ h => h) h01 rfl hHeld (Or.inl ⟨by rfl, ?_⟩) ?_
    · (intro W9 hSw; go_simp; (try (first | with_reducible rfl | rfl | (simp; done))))
    try simp only [Act.put, List.setIfInBounds_toArray, List.set_cons_zero, List.set_cons_succ]
    refine wpG_done (by kernel_rfl) ?_ _
    clear hHeld h01
    go_wp2_with fail
    have hbk : Blk (((W3.setCell ⟨g1, 0, none⟩ (.int .i64 0)).setCell ⟨g1, 1, none⟩ (.int .i64 0)).drew) g1 26 #[.int .i64 0, .int .i64 0] := Blk.drew1 (by have := (HZ0.out.set_ 0 (.int .i64 0)).set_ 1 (.int .i64 0); simpa using this)
    have hbw : Below w.heap.size w W3 := (HB1.out.trans (HB2.out.mono HB1.out.size)).trans (HB3.out.mono (Nat.le_trans HB1.out.size HB2.out.size))
    have hgg := HGG.out
    refine bodyPost_ret (res20 _ _ _ _ g1 _ _ rfl rfl rfl hbk) rfl ?_
    refine ⟨below_drew (Below.setCell (Below.setCell hbw (by simp; omega) _) (by simp; omega) _), Av, cv, rfl, ?_⟩
    refine own_base (own_keeps (own_setCell (own_setCell (own_keeps HWN.out fun k hk => HB3.out.block k (own_lt HWN.out k hk)) (a := ⟨g1, 0, none⟩) ?_ _) (a := ⟨g1, 1, none⟩) ?_ _) fun k hk => rfl) HB1.out.size
    · intro e; have := (HWN.out.lt g1 e).1; have := HG1.out.lt; omega
    · intro e; have := (HWN.out.lt g1 e).1; have := HG1.out.lt; omega
  | some b =>
    simp only [] at C35 ⊢
    have hne : (errN L b == 0) = false := by rcases errN_cases L b with h | h <;> rw [h] <;> rfl
    generalize errN L b = no at *
    generalize ((lcOf L b).1 : Int) = x at *
    generalize ((lcOf L b).2 : Int) = y at *
    go_enter Tryd.func20, Tryd.ntmps20
    go_upto_region 1 with fail
    rw [HW1.out, HGG.out]
    go_upto_region 4 with (go_at_call 35; (with_reducible refine C35.out.mono ?_); rintro e w2 ⟨hb2, rfl⟩; have HB2 := Lib.hid hb2; clear hb2)
    obtain ⟨W3, hW3⟩ : ∃ W3, w2.alloc (.cells #[.int .i64 x, .int .i64 y] 26) = W3 := ⟨_, rfl⟩
    have hb3 : Below w2.heap.size w2 W3 := hW3 ▸ (Below.refl _ w2).alloc (Nat.le_refl _) _
    have HZ0 : Hid (Blk W3 g1 26 #[.int .i64 0, .int .i64 0]) := Lib.hid ((HG1.out.below HB2.out HG1.out.lt).below hb3 (HG1.out.below HB2.out HG1.out.lt).lt)
    have HZ9 : Hid (Blk W3 w2.heap.size 26 #[.int .i64 x, .int .i64 y]) := Lib.hid (hW3 ▸ Blk.new w2 26 _)
    obtain ⟨g2, hg2⟩ : ∃ g2, w2.heap.size = g2 := ⟨_, rfl⟩
    rw [hg2] at HZ9
    have HZ1 : Hid (Z1 g2 x y W3.drew) := Lib.hid HZ9.out.drew1
    have HB3 := Lib.hid hb3
    rw [hW3, hg2]
    clear hW3 hg2 hb3
    refine wp_region_G (S0 := (Z1 g2 x y)) (S1 := (fun _ : World => True)) (c := 4) (by kernel_rfl) ?_
    have hHeld := HZ1.out
    have h01 := (fun (W : World) (h : (Z1 g2 x y) W) => trivial)
    refine wpG_takeA (i := 0) (oi := ⟨some 17, _, _, _, _, _⟩) (v := .slice none 0 0) rfl (by kernel_rfl) (by kernel_rfl) (by kernel_rfl) (by decide) (fun _ _ _ h => h) h01 rfl hHeld (Or.inl ⟨by rfl, ?_⟩) ?_
    · (intro W9 hSw; go_simp; (try (first | with_reducible rfl | rfl | (simp; done))))
    try simp only [Act.put, List.setIfInBounds_toArray, List.set_cons_zero, List.set_cons_succ]
    refine wpG_take0 (i := 1) (oi := ⟨some 18, _, _, _, _, _⟩) (v := .agg #[.int .i64 x, .int .i64 y]) rfl (by kernel_rfl) (by kernel_rfl) (by kernel_rfl) (by decide) (by kernel_rfl) (fun _ _ _ h => h) rfl hHeld (Or.inl ⟨by rfl, ?_⟩) ?_
    · (intro W9 hSw; have v1 := hSw.cell 0; have v2 := hSw.cell 1; simp only [List.getElem?_toArray, List.getElem?_cons_zero, List.getElem?_cons_succ] at v1 v2; go_simp; (try (first | with_reducible rfl | rfl | (simp; done))))
    try simp only [Act.put, List.setIfInBounds_toArray, List.set_cons_zero, List.set_cons_succ]
    refine wpG_takeA (i := 2) (oi := ⟨some 19, _, _, _, _, _⟩) (v := .int .i64 no) rfl (by kernel_rfl) (by kernel_rfl) (by kernel_rfl) (by decide) (fun _ _ _ h => h) h01 rfl hHeld (Or.inl ⟨by rfl, ?_⟩) ?_
    · (intro W9 hSw; go_simp; (try (first | with_reducible rfl | rfl | (simp; done))))
    try simp only [Act.put, List.setIfInBounds_toArray, List.set_cons_zero, List.set_cons_succ]
    refine wpG_takeA (i := 3) (oi := ⟨some 2, _, _, _, _, _⟩) (v := .slice none 0 0) rfl (by kernel_rfl) (by kernel_rfl) (by kernel_rfl) (by decide) (fun _ _ _ h => h) h01 rfl hHeld (Or.inl ⟨by rfl, ?_⟩) ?_
    · (intro W9 hSw; go_simp; (try (first | with_reducible rfl | rfl | (simp; done))))
    try simp only [Act.put, List.setIfInBounds_toArray, List.set_cons_zero, List.set_cons_succ]
    refine wpG_oneB (i := 4) (o := ⟨none, _, _, _, _, _⟩) (by kernel_rfl) rfl rfl (fun K hK => ?_)
    have kq0 := HZ0.out.cell 0
    have kq1 := HZ0.out.cell 1
    simp only [List.getElem?_toArray, List.getElem?_cons_zero, List.getElem?_cons_succ] at kq0 kq1
    have kz0 := HZ0.out.frozen 0
    have kz1 := HZ0.out.frozen 1
    go_simp
    clear kq0 kq1 kz0 kz1
    refine hK.out _ _ trivial (fun hHeld => ?_)
    clear hK K
    try simp only [Act.put, List.setIfInBounds_toArray, List.set_cons_zero, List.set_cons_succ]
    refine wpG_takeB (i := 5) (oi := ⟨some 4, _, _, _, _, _⟩) (v := .int .i64 no) rfl (by kernel_rfl) (by kernel_rfl) (by kernel_rfl) (by decide) (fun _ _ _ h => h) h01 rfl hHeld (Or.inl ⟨by rfl, ?_⟩) ?_
    · (intro W9 hSw; go_simp; (try (first | with_reducible rfl | rfl | (simp; done))))
    try simp only [Act.put, List.setIfInBounds_toArray, List.set_cons_zero, List.set_cons_succ]
    refine wpG_done (by kernel_rfl) ?_ _
    clear hHeld h01
    go_wp2_with fail
    have hbk : Blk (((W3.setCell ⟨g1, 0, none⟩ (.int .i64 x)).setCell ⟨g1, 1, none⟩ (.int .i64 y)).drew) g1 26 #[.int .i64 x, .int .i64 y] := Blk.drew1 (by have := (HZ0.out.set_ 0 (.int .i64 x)).set_ 1 (.int .i64 y); simpa using this)
    have hbw : Below w.heap.size w W3 := (HB1.out.trans (HB2.out.mono HB1.out.size)).trans (HB3.out.mono (Nat.le_trans HB1.out.size HB2.out.size))
    have hgg := HGG.out
    refine bodyPost_ret (res20 _ _ _ _ g1 _ _ rfl rfl rfl hbk) rfl ?_
    refine ⟨below_drew (Below.setCell (Below.setCell hbw (by simp; omega) _) (by simp; omega) _), rfl⟩

end Go.Proofs.YtkihoekldklkhaaDoor

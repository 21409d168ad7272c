/- A reader is made. -/
import Derived.Test.YtkihoekldklkhaaDoorRa
import Derived.Test.YtkihoekldklkhaaDoorTm
namespace Go.Proofs.YtkihoekldklkhaaDoor
open Go.RowKit
set_option linter.unusedVariables false
set_option linter.unusedSimpArgs false

/-- What New returns: a reader that holds the tokens and the end's place, or the error with its place. -/
def NewE (L : List UInt8) (w : World) (e : Ending) (w' : World) : Prop := Below w.heap.size w w' ∧ match (scanL 0 L).2 with
  | none => ∃ g A c, e = .returned (.tuple #[.pointer (some ⟨g, 0, none⟩), .agg #[.int .i64 0, .int .i64 0], .int .i64 0]) ∧ w.heap.size ≤ g ∧ Blk w' g 28 #[.slice A (scanL 0 L).1.length c, .int .i64 ((lcOf L L.length).1 : Int), .int .i64 ((lcOf L L.length).2 : Int)] ∧ w'.ownsRow w.heap.size 32 5 (.slice A (scanL 0 L).1.length c) (scanL 0 L).1.length ((scanL 0 L).1.flatMap (TkC L))
  | some b => e = .returned (.tuple #[.pointer none, .agg #[.int .i64 ((lcOf L b).1 : Int), .int .i64 ((lcOf L b).2 : Int)], .int .i64 (errN L b)])
theorem res16 (tmps : Array Value) (W : World) (v1 v3 : Value) (gp : Nat) (a b : Value) (h2 : tmps.getD 2 undef = v1) (h3 : tmps.getD 3 undef = .pointer (some ⟨gp, 0, none⟩)) (h4 : tmps.getD 4 undef = v3) (hp : Blk W gp 26 #[a, b]) : (results Tryd.f16 tmps).run Tryd.prog W = .ok (.tuple #[v1, .agg #[a, b], v3]) W := by
  have k0 := hp.cell 0
  have k1 := hp.cell 1
  simp at k0 k1 h2 h3 h4
  simp [results, Tryd.results16, go_sem, h2, h3, h4, k0, k1]
set_option maxRecDepth 100000 in
set_option maxHeartbeats 1000000 in
theorem new_any (L : List UInt8) (w : World) (hn : L.length ≤ 1000000) : Calls Tryd.prog 16 #[.string ⟨L.toArray⟩] w (NewE L w) := by
  have hb1 : Below w.heap.size w (w.alloc (.cells #[.int .i64 0, .int .i64 0] 26)) := (Below.refl _ w).alloc (Nat.le_refl _) _
  have C35 := Lib.hid (scanned_any L (w.alloc (.cells #[.int .i64 0, .int .i64 0] 26)) hn)
  have HB1 := Lib.hid hb1
  have HG1 := Lib.hid (Blk.new w 26 #[.int .i64 0, .int .i64 0])
  unfold ScdR at C35
  unfold NewE
  obtain ⟨W1, hW1⟩ : ∃ W1, w.alloc (.cells #[.int .i64 0, .int .i64 0] 26) = W1 := ⟨_, rfl⟩
  rw [hW1] at C35 HB1 HG1
  have HW1 := Lib.hid hW1
  obtain ⟨R, hR⟩ : ∃ R, scanL 0 L = R := ⟨_, rfl⟩
  rw [hR] at C35 ⊢
  obtain ⟨ts, bo⟩ := R
  generalize ((lcOf L L.length).1 : Int) = xe at *
  generalize ((lcOf L L.length).2 : Int) = ye at *
  generalize (⟨L.toArray⟩ : ByteArray) = St at *
  obtain ⟨g1, hg1⟩ : ∃ g1, w.heap.size = g1 := ⟨_, rfl⟩
  rw [hg1] at HG1
  have HGG := Lib.hid hg1
  clear hn hb1 hW1 hR hg1
  cases bo with
  | none =>
    simp only [] at C35 ⊢
    go_enter Tryd.func16, Tryd.ntmps16
    go_upto_region 1 with fail
    rw [HW1.out, HGG.out]
    go_upto_region 2 with (go_at_call 35; (with_reducible refine C35.out.mono ?_); rintro e w2 ⟨hb2, v, rfl, hown⟩; obtain ⟨Av, cv, ev, -⟩ := own_formS hown; subst ev; have HB2 := Lib.hid hb2; have HWN := Lib.hid hown; clear hb2 hown)
    obtain ⟨W3, hW3⟩ : ∃ W3, w2.alloc (.cells #[.int .i64 xe, .int .i64 ye] 26) = W3 := ⟨_, rfl⟩
    have hb3 : Below w2.heap.size w2 W3 := hW3 ▸ (Below.refl _ w2).alloc (Nat.le_refl _) _
    have HZ0 : Hid (Blk W3 g1 26 #[.int .i64 0, .int .i64 0]) := Lib.hid ((HG1.out.below HB2.out HG1.out.lt).below hb3 (HG1.out.below HB2.out HG1.out.lt).lt)
    have HZ9 : Hid (Blk W3 w2.heap.size 26 #[.int .i64 xe, .int .i64 ye]) := Lib.hid (hW3 ▸ Blk.new w2 26 _)
    obtain ⟨g2, hg2⟩ : ∃ g2, w2.heap.size = g2 := ⟨_, rfl⟩
    rw [hg2] at HZ9
    have HZ1 : Hid (Z1 g2 xe ye W3.drew) := Lib.hid HZ9.out.drew1
    have HB3 := Lib.hid hb3
    have HBW := Lib.hid ((HB1.out.trans (HB2.out.mono HB1.out.size)).trans (hb3.mono (Nat.le_trans HB1.out.size HB2.out.size)))
    rw [hW3, hg2]
    clear hW3 hg2 hb3
    have HW3 : Hid (W3.ownsRow W1.heap.size 32 5 (.slice Av ts.length cv) ts.length (ts.flatMap (TkC L))) := Lib.hid (own_keeps HWN.out fun k hk => HB3.out.block k (own_lt HWN.out k hk))
    have e0 := HZ9.out.cell 0
    have e1 := HZ9.out.cell 1
    simp only [List.getElem?_toArray, List.getElem?_cons_zero, List.getElem?_cons_succ] at e0 e1
    go_upto_region 4 with fail
    have HB4 : Hid (Below W3.heap.size W3 (W3.alloc (.cells #[.slice Av ts.length cv, .int .i64 xe, .int .i64 ye] 28))) := Lib.hid ((Below.refl _ W3).alloc (Nat.le_refl _) _)
    have HZ4 := Lib.hid (HZ0.out.below HB4.out HZ0.out.lt)
    have HR4 : Hid (Blk (W3.alloc (.cells #[.slice Av ts.length cv, .int .i64 xe, .int .i64 ye] 28)) W3.heap.size 28 #[.slice Av ts.length cv, .int .i64 xe, .int .i64 ye]) := Lib.hid (Blk.new W3 28 _)
    have z0 := HZ4.out.frozen 0
    have z1 := HZ4.out.frozen 1
    have c0 := HZ4.out.cell 0
    have c1 := HZ4.out.cell 1
    simp only [List.getElem?_toArray, List.getElem?_cons_zero, List.getElem?_cons_succ] at c0 c1
    go_wp2_with fail
    have hbk : Blk (((W3.alloc (.cells #[.slice Av ts.length cv, .int .i64 xe, .int .i64 ye] 28)).setCell ⟨g1, 0, none⟩ (.int .i64 0)).setCell ⟨g1, 1, none⟩ (.int .i64 0)) g1 26 #[.int .i64 0, .int .i64 0] := by have := (HZ4.out.set_ 0 (.int .i64 0)).set_ 1 (.int .i64 0); simpa using this
    have hgg := HGG.out
    have h13 : g1 < W3.heap.size := HZ0.out.lt
    refine bodyPost_ret (res16 _ _ _ _ g1 _ _ rfl rfl rfl hbk) rfl ?_
    refine ⟨Below.setCell (Below.setCell (HBW.out.trans (HB4.out.mono HBW.out.size)) (by simp; omega) _) (by simp; omega) _, W3.heap.size, Av, cv, rfl, HBW.out.size, (HR4.out.far (by simp; omega) _).far (by simp; omega) _, ?_⟩
    refine own_base (own_setCell (own_setCell (own_keeps HW3.out fun k hk => HB4.out.block k (own_lt HW3.out k hk)) (a := ⟨g1, 0, none⟩) ?_ _) (a := ⟨g1, 1, none⟩) ?_ _) HB1.out.size
    · intro e; have := (HW3.out.lt g1 e).1; have := HG1.out.lt; omega
    · intro e; have := (HW3.out.lt g1 e).1; have := HG1.out.lt; omega
  | some b =>
    simp only [] at C35 ⊢
    have hne : (errN L b != 0) = true := by rcases errN_cases L b with h | h <;> rw [h] <;> rfl
    generalize errN L b = no at *
    generalize ((lcOf L b).1 : Int) = x at *
    generalize ((lcOf L b).2 : Int) = y at *
    go_enter Tryd.func16, Tryd.ntmps16
    go_upto_region 1 with fail
    rw [HW1.out, HGG.out]
    go_upto_region 3 with (go_at_call 35; (with_reducible refine C35.out.mono ?_); rintro e w2 ⟨hb2, rfl⟩; have HB2 := Lib.hid hb2; clear hb2)
    obtain ⟨W3, hW3⟩ : ∃ W3, w2.alloc (.cells #[.int .i64 x, .int .i64 y] 26) = W3 := ⟨_, rfl⟩
    have hb3 : Below w2.heap.size w2 W3 := hW3 ▸ (Below.refl _ w2).alloc (Nat.le_refl _) _
    have HZ0 : Hid (Blk W3 g1 26 #[.int .i64 0, .int .i64 0]) := Lib.hid ((HG1.out.below HB2.out HG1.out.lt).below hb3 (HG1.out.below HB2.out HG1.out.lt).lt)
    have HZ9 : Hid (Blk W3 w2.heap.size 26 #[.int .i64 x, .int .i64 y]) := Lib.hid (hW3 ▸ Blk.new w2 26 _)
    obtain ⟨g2, hg2⟩ : ∃ g2, w2.heap.size = g2 := ⟨_, rfl⟩
    rw [hg2] at HZ9
    have HZ1 : Hid (Z1 g2 x y W3.drew) := Lib.hid HZ9.out.drew1
    have HB3 := Lib.hid hb3
    have HBW := Lib.hid ((HB1.out.trans (HB2.out.mono HB1.out.size)).trans (hb3.mono (Nat.le_trans HB1.out.size HB2.out.size)))
    rw [hW3, hg2]
    clear hW3 hg2 hb3
    refine wp_region_G (S0 := (Z1 g2 x y)) (S1 := (fun _ : World => True)) (c := 3) (by kernel_rfl) ?_
    have hHeld := HZ1.out
    have h01 := (fun (W : World) (h : (Z1 g2 x y) W) => trivial)
    refine wpG_take0 (i := 0) (oi := ⟨some 16, _, _, _, _, _⟩) (v := .agg #[.int .i64 x, .int .i64 y]) rfl (by kernel_rfl) (by kernel_rfl) (by kernel_rfl) (by decide) (by kernel_rfl) (fun _ _ _ h => h) rfl hHeld (Or.inl ⟨by rfl, ?_⟩) ?_
    · (intro W9 hSw; have v1 := hSw.cell 0; have v2 := hSw.cell 1; simp only [List.getElem?_toArray, List.getElem?_cons_zero, List.getElem?_cons_succ] at v1 v2; go_simp; (try (first | with_reducible rfl | rfl | (simp; done))))
    try simp only [Act.put, List.setIfInBounds_toArray, List.set_cons_zero, List.set_cons_succ]
    refine wpG_takeA (i := 1) (oi := ⟨some 17, _, _, _, _, _⟩) (v := .int .i64 no) rfl (by kernel_rfl) (by kernel_rfl) (by kernel_rfl) (by decide) (fun _ _ _ h => h) h01 rfl hHeld (Or.inl ⟨by rfl, ?_⟩) ?_
    · (intro W9 hSw; go_simp; (try (first | with_reducible rfl | rfl | (simp; done))))
    try simp only [Act.put, List.setIfInBounds_toArray, List.set_cons_zero, List.set_cons_succ]
    refine wpG_takeA (i := 2) (oi := ⟨some 2, _, _, _, _, _⟩) (v := .pointer none) rfl (by kernel_rfl) (by kernel_rfl) (by kernel_rfl) (by decide) (fun _ _ _ h => h) h01 rfl hHeld (Or.inl ⟨by rfl, ?_⟩) ?_
    · (intro W9 hSw; go_simp; (try (first | with_reducible rfl | rfl | (simp; done))))
    try simp only [Act.put, List.setIfInBounds_toArray, List.set_cons_zero, List.set_cons_succ]
    refine wpG_oneB (i := 3) (o := ⟨none, _, _, _, _, _⟩) (by kernel_rfl) rfl rfl (fun K hK => ?_)
    have kq0 := HZ0.out.cell 0
    have kq1 := HZ0.out.cell 1
    simp only [List.getElem?_toArray, List.getElem?_cons_zero, List.getElem?_cons_succ] at kq0 kq1
    have kz0 := HZ0.out.frozen 0
    have kz1 := HZ0.out.frozen 1
    go_simp
    clear kq0 kq1 kz0 kz1
    refine hK.out _ _ trivial (fun hHeld => ?_)
    clear hK K
    try simp only [Act.put, List.setIfInBounds_toArray, List.set_cons_zero, List.set_cons_succ]
    refine wpG_takeB (i := 4) (oi := ⟨some 4, _, _, _, _, _⟩) (v := .int .i64 no) rfl (by kernel_rfl) (by kernel_rfl) (by kernel_rfl) (by decide) (fun _ _ _ h => h) h01 rfl hHeld (Or.inl ⟨by rfl, ?_⟩) ?_
    · (intro W9 hSw; go_simp; (try (first | with_reducible rfl | rfl | (simp; done))))
    try simp only [Act.put, List.setIfInBounds_toArray, List.set_cons_zero, List.set_cons_succ]
    refine wpG_done (by kernel_rfl) ?_ _
    clear hHeld h01
    go_wp2_with fail
    have hbk : Blk (((W3.setCell ⟨g1, 0, none⟩ (.int .i64 x)).setCell ⟨g1, 1, none⟩ (.int .i64 y)).drew) g1 26 #[.int .i64 x, .int .i64 y] := Blk.drew1 (by have := (HZ0.out.set_ 0 (.int .i64 x)).set_ 1 (.int .i64 y); simpa using this)
    have hgg := HGG.out
    refine bodyPost_ret (res16 _ _ _ _ g1 _ _ rfl rfl rfl hbk) rfl ?_
    exact ⟨below_drew (Below.setCell (Below.setCell HBW.out (by simp; omega) _) (by simp; omega) _), rfl⟩

end Go.Proofs.YtkihoekldklkhaaDoor

/- scanned, Scan, New. -/
import Derived.Test.YtkihoekldklkhaaDoorTk
namespace Go.Proofs.YtkihoekldklkhaaDoor
open Go.RowKit
set_option linter.unusedVariables false
set_option linter.unusedSimpArgs false

/-- What scanned returns. -/
def ScdR (L : List UInt8) (w : World) (e : Ending) (w' : World) : Prop := Below w.heap.size w w' ∧ match (scanL 0 L).2 with
  | none => ∃ v, e = .returned (.tuple #[v, .agg #[.int .i64 ((lcOf L L.length).1 : Int), .int .i64 ((lcOf L L.length).2 : Int)], .int .i64 0]) ∧ w'.ownsRow w.heap.size 32 5 v (scanL 0 L).1.length ((scanL 0 L).1.flatMap (TkC L))
  | some b => e = .returned (.tuple #[.slice none 0 0, .agg #[.int .i64 ((lcOf L b).1 : Int), .int .i64 ((lcOf L b).2 : Int)], .int .i64 (errN L b)])
def ZP (gp : Nat) (W : World) : Prop := W.cell? ⟨gp, 0, none⟩ = some (.int .i64 0) ∧ W.cell? ⟨gp, 1, none⟩ = some (.int .i64 0)
theorem Res3.own {w W : World} {gl gp ge : Nat} {x a b z : Value} (h : Res3 w W gl gp ge x a b z) : Res3 W W gl gp ge x a b z := ⟨h.l, h.p, h.e, Only.refl _ _⟩
theorem Res3.over {W W2 : World} {gl gp ge sb : Nat} {x a b z : Value} (h : Res3 W W gl gp ge x a b z) (ho : Only (fun k => k = sb) W W2) (h1 : sb ≠ gl) (h2 : sb ≠ gp) (h3 : sb ≠ ge) : Res3 W2 W2 gl gp ge x a b z :=
  ⟨Blk.only h.l ho (fun e => h1 e.symm), Blk.only h.p ho (fun e => h2 e.symm), Blk.only h.e ho (fun e => h3 e.symm), Only.refl _ _⟩
set_option maxRecDepth 100000 in
set_option maxHeartbeats 400000 in
theorem scanned_any (L : List UInt8) (w : World) (hn : L.length ≤ 1000000) : Calls Tryd.prog 35 #[.string ⟨L.toArray⟩] w (ScdR L w) := by
  have hmf : ∀ (fn : Fn) (first cap : Array Value) (w : World), (Instr.makeFunc fn first cap).run Tryd.prog w = .ok (.func fn first cap) w := fun _ _ _ _ => rfl
  obtain ⟨W1, hW1⟩ : ∃ W1, (((w.alloc (.cells #[.slice none 0 0] 24)).alloc (.cells #[.int .i64 0, .int .i64 0] 26)).alloc (.cells #[.int .i64 0] 33)).alloc (.cells #[.string ⟨L.toArray⟩, .int .i64 0, .int .i64 1, .int .i64 1] 89) = W1 := ⟨_, rfl⟩
  have hb1 : Below w.heap.size w W1 := hW1 ▸ ((((Below.refl _ w).alloc (Nat.le_refl _) _).alloc (by simp) _).alloc (by simp; omega) _).alloc (by simp; omega) _
  obtain ⟨gl, hgl⟩ : ∃ gl, w.heap.size = gl := ⟨_, rfl⟩
  have HX1 : Hid (Res3 W1 W1 gl (gl + 1) (gl + 1 + 1) (.slice none 0 0) (.int .i64 0) (.int .i64 0) (.int .i64 0)) := Lib.hid (by
    have k0 := (((Blk.new w 24 #[.slice none 0 0]).alloc (.cells #[.int .i64 0, .int .i64 0] 26)).alloc (.cells #[.int .i64 0] 33)).alloc (.cells #[.string ⟨L.toArray⟩, .int .i64 0, .int .i64 1, .int .i64 1] 89)
    have k1 := ((Blk.new (w.alloc (.cells #[.slice none 0 0] 24)) 26 #[.int .i64 0, .int .i64 0]).alloc (.cells #[.int .i64 0] 33)).alloc (.cells #[.string ⟨L.toArray⟩, .int .i64 0, .int .i64 1, .int .i64 1] 89)
    have k2 := (Blk.new ((w.alloc (.cells #[.slice none 0 0] 24)).alloc (.cells #[.int .i64 0, .int .i64 0] 26)) 33 #[.int .i64 0]).alloc (.cells #[.string ⟨L.toArray⟩, .int .i64 0, .int .i64 1, .int .i64 1] 89)
    rw [hW1] at k0 k1 k2
    simp only [World.size_alloc, hgl] at k0 k1 k2
    exact ⟨k0, k1, k2, Only.refl _ _⟩)
  have HS1 : Hid (Sc L (gl + 1 + 1 + 1) 0 W1) := Lib.hid (by
    have k3 := Blk.new (((w.alloc (.cells #[.slice none 0 0] 24)).alloc (.cells #[.int .i64 0, .int .i64 0] 26)).alloc (.cells #[.int .i64 0] 33)) 89 #[.string ⟨L.toArray⟩, .int .i64 0, .int .i64 1, .int .i64 1]
    rw [hW1] at k3
    simp only [World.size_alloc, hgl] at k3
    exact k3)
  obtain ⟨gp, hgp⟩ : ∃ gp, gl + 1 = gp := ⟨_, rfl⟩
  obtain ⟨ge, hge⟩ : ∃ ge, gp + 1 = ge := ⟨_, rfl⟩
  obtain ⟨sb, hsb⟩ : ∃ sb, ge + 1 = sb := ⟨_, rfl⟩
  rw [hgp, hge] at HX1
  rw [hgp, hge, hsb] at HS1
  have HN : Hid (sb ≠ gl ∧ sb ≠ gp ∧ sb ≠ ge) := Lib.hid (by omega)
  have HG : Hid (w.heap.size ≤ gl ∧ w.heap.size ≤ gp ∧ w.heap.size ≤ ge ∧ w.heap.size ≤ sb) := Lib.hid (by omega)
  have C49 := Lib.hid (scan_any L sb W1.drew HS1.out.drew hn)
  have HB1 := Lib.hid hb1
  have HWG : Hid (w.heap.size ≤ W1.heap.size) := Lib.hid hb1.size
  unfold ScanR at C49
  have hzp0 : ZP gp W1.drew := ⟨HX1.out.p.cell 0, HX1.out.p.cell 1⟩
  have HW1 := Lib.hid hW1
  have HGS := Lib.hid (And.intro hgl (And.intro hgp (And.intro hge hsb)))
  unfold ScdR
  obtain ⟨R, hR⟩ : ∃ R, scanL 0 L = R := ⟨_, rfl⟩
  rw [hR] at C49 ⊢
  obtain ⟨ts, bo⟩ := R
  clear hn hb1 hW1 hgl hgp hge hsb hR
  cases bo with
  | none =>
    simp only [] at C49 ⊢
    go_enter_defers Tryd.func35, Tryd.ntmps35
    go_upto_region 3 with fail
    rw [HW1.out, HGS.out.1, HGS.out.2.1, HGS.out.2.2.1, HGS.out.2.2.2]
    clear hmf
    refine wp_region_G (S0 := (ZP gp)) (S1 := (fun _ : World => True)) (c := 3) (by kernel_rfl) ?_
    have hHeld := hzp0
    have h01 := (fun (W : World) (h : (ZP gp) W) => trivial)
    refine wpG_take0 (i := 1) (oi := ⟨some 12, _, _, _, _, _⟩) (v := .agg #[.int .i64 0, .int .i64 0]) rfl (by kernel_rfl) (by kernel_rfl) (by kernel_rfl) (by decide) (by kernel_rfl) (fun _ _ _ h => scd_hQ (by decide) h) rfl hHeld (Or.inl ⟨by rfl, ?_⟩) ?_
    · (intro W9 hSw; obtain ⟨v1, v2⟩ := hSw; go_simp; (try (first | with_reducible rfl | rfl | (simp; done))))
    try simp only [Act.put, List.setIfInBounds_toArray, List.set_cons_zero, List.set_cons_succ]
    refine wpG_oneA (i := 0) (o := ⟨some 11, _, _, _, _, _⟩) (by kernel_rfl) rfl rfl (fun K hK => ?_)
    go_simp
    (with_reducible refine C49.out.mono ?_); rintro e w2 ⟨ho, ⟨v, rfl, hown⟩, hs⟩; obtain ⟨Av, cv, ev, -⟩ := own_formS hown; subst ev
    have HO := Lib.hid ho
    have HWN := Lib.hid hown
    have HS2 := Lib.hid hs
    have H0 := Lib.hid (HX1.out.drew.own.over ho HN.out.1 HN.out.2.1 HN.out.2.2)
    clear ho hown hs
    have hzp : ZP gp w2 := ⟨H0.out.p.cell 0, H0.out.p.cell 1⟩
    refine hK.out _ _ hzp (fun hHeld => ?_)
    clear hK K
    try simp only [Act.put, List.setIfInBounds_toArray, List.set_cons_zero, List.set_cons_succ]
    refine wpG_oneA (i := 2) (o := ⟨none, _, _, _, _, _⟩) (by kernel_rfl) rfl rfl (fun K hK => ?_)
    have kq0 := H0.out.l.cell 0
    simp at kq0
    have kz0 := H0.out.l.frozen 0
    go_simp
    clear kq0 kz0
    have H1 := Lib.hid (H0.out.set1 (.slice Av ts.length cv))
    have hzp : ZP gp (w2.setCell ⟨gl, 0, none⟩ (.slice Av ts.length cv)) := ⟨H1.out.p.cell 0, H1.out.p.cell 1⟩
    refine hK.out _ _ hzp (fun hHeld => ?_)
    clear hK K
    try simp only [Act.put, List.setIfInBounds_toArray, List.set_cons_zero, List.set_cons_succ]
    refine wpG_oneB (i := 3) (o := ⟨none, _, _, _, _, _⟩) (by kernel_rfl) rfl rfl (fun K hK => ?_)
    have kq0 := H1.out.p.cell 0
    simp at kq0
    have kz0 := H1.out.p.frozen 0
    have kq1 := H1.out.p.cell 1
    simp at kq1
    have kz1 := H1.out.p.frozen 1
    go_simp
    clear kq0 kz0 kq1 kz1
    have H2 := Lib.hid (H1.out.set2 (.int .i64 0) (.int .i64 0))
    refine hK.out _ _ trivial (fun hHeld => ?_)
    clear hK K
    try simp only [Act.put, List.setIfInBounds_toArray, List.set_cons_zero, List.set_cons_succ]
    refine wpG_oneB (i := 4) (o := ⟨none, _, _, _, _, _⟩) (by kernel_rfl) rfl rfl (fun K hK => ?_)
    have kq0 := H2.out.e.cell 0
    simp at kq0
    have kz0 := H2.out.e.frozen 0
    go_simp
    clear kq0 kz0
    have H3 := Lib.hid (H2.out.set3 (.int .i64 0))
    refine hK.out _ _ trivial (fun hHeld => ?_)
    clear hK K
    try simp only [Act.put, List.setIfInBounds_toArray, List.set_cons_zero, List.set_cons_succ]
    refine wpG_done (by kernel_rfl) ?_ _
    clear hHeld h01
    go_wp2_with fail
    refine scd_ret _ _ rfl rfl rfl rfl (Sc.only HS2.out H3.out.only (fun e => e.elim HN.out.1 (fun e => e.elim HN.out.2.1 HN.out.2.2))) H3.out.own fun w9 h9 => ?_
    have hon := Only.tr H3.out.only h9.only
    have hle : w.heap.size ≤ w2.heap.size := Nat.le_trans HWG.out HO.out.size
    refine ⟨?_, _, rfl, ?_⟩
    · have hg := HG.out
      exact ((below_drew HB1.out).trans (HO.out.to_below HWG.out fun b hb e => by omega)).trans (hon.to_below hle fun b hb e => by omega)
    · have hg := HG.out
      exact own_base (own_only HWN.out hon fun k hk e => e.elim (fun e => own_blk HWN.out H0.out.l (by decide) (e ▸ hk)) (fun e => e.elim (fun e => own_blk HWN.out H0.out.p (by decide) (e ▸ hk)) (fun e => own_blk HWN.out H0.out.e (by decide) (e ▸ hk)))) HWG.out
  | some b =>
    simp only [] at C49 ⊢
    go_enter_defers Tryd.func35, Tryd.ntmps35
    go_upto_region 3 with fail
    rw [HW1.out, HGS.out.1, HGS.out.2.1, HGS.out.2.2.1, HGS.out.2.2.2]
    clear hmf
    refine wp_region_G (S0 := (ZP gp)) (S1 := (fun _ : World => True)) (c := 3) (by kernel_rfl) ?_
    have hHeld := hzp0
    have h01 := (fun (W : World) (h : (ZP gp) W) => trivial)
    refine wpG_take0 (i := 1) (oi := ⟨some 12, _, _, _, _, _⟩) (v := .agg #[.int .i64 0, .int .i64 0]) rfl (by kernel_rfl) (by kernel_rfl) (by kernel_rfl) (by decide) (by kernel_rfl) (fun _ _ _ h => scd_hQ (by decide) h) rfl hHeld (Or.inl ⟨by rfl, ?_⟩) ?_
    · (intro W9 hSw; obtain ⟨v1, v2⟩ := hSw; go_simp; (try (first | with_reducible rfl | rfl | (simp; done))))
    try simp only [Act.put, List.setIfInBounds_toArray, List.set_cons_zero, List.set_cons_succ]
    refine wpG_oneA (i := 0) (o := ⟨some 11, _, _, _, _, _⟩) (by kernel_rfl) rfl rfl (fun K hK => ?_)
    go_simp
    (with_reducible refine C49.out.mono ?_); rintro e w2 ⟨ho, rfl, hs⟩
    refine scd_panic _ _ _ rfl rfl rfl rfl hs (HX1.out.drew.own.over ho HN.out.1 HN.out.2.1 HN.out.2.2) fun w9 h9 => ⟨?_, rfl⟩
    have hle : w.heap.size ≤ w2.heap.size := Nat.le_trans HWG.out ho.size
    have hg := HG.out
    exact ((below_drew HB1.out).trans (ho.to_below HWG.out fun b hb e => by omega)).trans (h9.only.to_below hle fun b hb e => by omega)

end Go.Proofs.YtkihoekldklkhaaDoor

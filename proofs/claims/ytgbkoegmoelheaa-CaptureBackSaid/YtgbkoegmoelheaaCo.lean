/- Add, Copy. -/
import Derived.Test.YtgbkoegmoelheaaCn
import Derived.Deep.CutRange
namespace Go.Proofs.Ytgbkoegmoelheaa
open Go.RowKit
set_option linter.unusedVariables false
set_option linter.unusedSimpArgs false

def AddS (pb g : Nat) (t last : Int) (W : World) : Prop := W.cell? ⟨pb, 0, none⟩ = some (.int .i64 t) ∧ W.cell? ⟨g, 2, none⟩ = some (.int .i64 last)
def AddL (pb g : Nat) (t f : Int) (v2 vl : Value) (W : World) : Prop := W.cell? ⟨pb, 0, none⟩ = some (.int .i64 t) ∧ W.cell? ⟨pb, 1, none⟩ = some (.int .i64 f) ∧ W.cell? ⟨pb, 2, none⟩ = some v2 ∧ W.cell? ⟨g, 1, none⟩ = some vl
theorem cell_below {W W' : World} {a : Addr} {u : Value} (h : W.cell? a = some u) (hb : Below W.heap.size W W') : W'.cell? a = some u := (hb.cell (World.block_lt_of_cell? _ _ h)).trans h
theorem AddL.below {pb g : Nat} {t f : Int} {v2 vl : Value} {W W' : World} (h : AddL pb g t f v2 vl W) (hb : Below W.heap.size W W') : AddL pb g t f v2 vl W' := ⟨cell_below h.1 hb, cell_below h.2.1 hb, cell_below h.2.2.1 hb, cell_below h.2.2.2 hb⟩
structure Reg8 (W wx : World) (B : Nat) (ds : List Pd) (p : Pd) (v : Value) : Prop where
  below : Below W.heap.size W wx
  own : wx.ownsRow B 31 3 v (ds.length + 1) ((ds ++ [p]).flatMap Pd.cells)
theorem StepW.same {w w' : World} {B g : Nat} {vb vl : Value} {ds : List Pd} {s : StP} (h : WS w B g vb vl ds s) (hb : Below w.heap.size w w') : StepW w w' B g vb vl ds s := ⟨vb, vl, ds, h.below hb, Only.of_below hb, Hat.refl _ _, fun k _ hk => hk⟩
theorem own_lit1 (w : World) (cs : Array Value) (e : TypeId) (size : Nat) (hs : cs.size = size) : (w.alloc (.cells cs e)).ownsRow w.heap.size e size (.slice (some ⟨w.heap.size, 0, none⟩) 1 1) 1 cs.toList :=
  ⟨by simpa using hs, .inr ⟨w.heap.size, 1, cs, rfl, Nat.le_refl _, heap_alloc_new w _, Nat.le_refl _, by decide, by simpa using hs, by rw [List.take_of_length_le]; simp [hs]⟩⟩
theorem addP_bad {s : StP} {p : Pk} (h : validP p = false) : addP s p = (s, 2) := by unfold addP; rw [h]; rfl
theorem addP_old {s : StP} {p : Pk} (h : validP p = true) (h2 : p.t < s.last) : addP s p = (s, 8) := by unfold addP; rw [if_pos h, if_pos h2]
theorem addP_fit {s : StP} {p : Pk} (h : validP p = true) (h2 : ¬ p.t < s.last) (h3 : fitsP (s.l ++ [p]) = true) : addP s p = (⟨s.b, s.l ++ [p], p.t⟩, 0) := by unfold addP; rw [if_pos h, if_neg h2, if_pos h3]
theorem addP_new {s : StP} {p : Pk} (h : validP p = true) (h2 : ¬ p.t < s.last) (h3 : fitsP (s.l ++ [p]) = false) : addP s p = (⟨(closeP s).b, [p], p.t⟩, 0) := by unfold addP; rw [if_pos h, if_neg h2, h3]; rfl
/-- The writer with its new packets. -/
theorem WS.put {X : World} {B g : Nat} {vb y z v : Value} {ds2 : List Pd} {s2 : StP} (hb : Blk X g 46 #[vb, y, z]) (ho : X.ownsRow B 5 1 vb s2.b.length (s2.b.map u8)) (hp : PO B X v ds2) (he : pks ds2 = s2.l) (hB : B ≤ X.heap.size) (hg : B ≤ g) (hs : ∀ p ∈ ds2, ∀ j, vb.ownBlock = some j → p.data.ownBlock ≠ some j) (hok : OkP s2) :
    WS ((X.setCell ⟨g, 1, none⟩ v).setCell ⟨g, 2, none⟩ (.int .i64 s2.last)) B g vb v ds2 s2 := by
  have hon : Only (fun k => k = g) X ((X.setCell ⟨g, 1, none⟩ v).setCell ⟨g, 2, none⟩ (.int .i64 s2.last)) := Only.set (p := fun k => k = g) (Only.set (p := fun k => k = g) (Only.refl _ X) (fun _ => rfl) 1 _) (fun _ => rfl) 2 _
  have hbk := (hb.set_ 1 v).set_ 2 (.int .i64 s2.last)
  simp only [List.setIfInBounds_toArray, List.set_cons_zero, List.set_cons_succ] at hbk
  refine ⟨hbk, own_only ho hon fun k hk e => own_ne ho hb (by decide) (e ▸ hk), ⟨own_only hp.own hon fun k hk e => own_neP hp.own hb (by decide) (e ▸ hk), fun q hq => own_only (hp.data q hq) hon fun k hk e => own_ne (hp.data q hq) hb (by decide) (e ▸ hk), hp.rng⟩, he, Nat.le_trans hB hon.size, hg, hs, hok⟩

set_option maxRecDepth 100000 in
theorem add_nil (v : Value) (w : World) (t f : Int) (A : Option Addr) (n c : Nat) (hv : v = .agg #[.int .i64 t, .int .i64 f, .slice A n c]) : Calls Try.prog 22 #[.pointer none, v] w fun e w' => e = .returned (.int .i64 1) ∧ Below w.heap.size w w' := by
  subst hv
  go_enter Try.func22, Try.ntmps22
  go_wp2_with fail
  go_ret
  exact ⟨rfl, (Below.refl w.heap.size w).alloc (Nat.le_refl _) _⟩

set_option maxRecDepth 100000 in
set_option maxHeartbeats 8000000 in
theorem add_any (w : World) (B g : Nat) (vb vl : Value) (ds : List Pd) (s : StP) (t f : Int) (A : Option Addr) (n c : Nat) (d : List UInt8) (h : WS w B g vb vl ds s) (hp : PdR w ⟨t, f, A, n, c, d⟩) (hn : n ≤ 30000) (hl : s.b.length ≤ 2000000) :
    Calls Try.prog 22 #[.pointer (some ⟨g, 0, none⟩), .agg #[.int .i64 t, .int .i64 f, .slice A n c]] w fun e w' => e = .returned (.int .i64 (addP s ⟨t, f, d⟩).2) ∧ StepW w w' B g vb vl ds (addP s ⟨t, f, d⟩).1 := by
  have C12 := valid_any ⟨t, f, A, n, c, d⟩ (w.alloc (.cells #[.int .i64 t, .int .i64 f, .slice A n c] 31)) hp.r.len (by show n ≤ 100000; omega)
  unfold Pd.val at C12
  simp only at C12
  have hpk : (⟨t, f, A, n, c, d⟩ : Pd).pk = ⟨t, f, d⟩ := rfl
  rw [hpk] at C12
  have H := Lib.hid h
  have HP := Lib.hid hp
  have HN := Lib.hid hn
  have HL := Lib.hid hl
  have hb0 : Below w.heap.size w (w.alloc (.cells #[.int .i64 t, .int .i64 f, .slice A n c] 31)) := (Below.refl _ w).alloc (Nat.le_refl _) _
  have HB0 := Lib.hid hb0
  have HK0 := Lib.hid (Blk.new w 31 #[.int .i64 t, .int .i64 f, .slice A n c])
  obtain ⟨A1, c1, hvl⟩ := h.po.form
  obtain ⟨m, hm⟩ : ∃ m, ds.length = m := ⟨_, rfl⟩
  rw [hm] at hvl
  subst hvl
  have HDM := Lib.hid hm
  have HM := Lib.hid (show m ≤ 64 by have := h.n64; omega)
  obtain ⟨v, hv⟩ : ∃ v, validP ⟨t, f, d⟩ = v := ⟨_, rfl⟩
  rw [hv] at C12
  have C12 := Lib.hid C12
  clear h hp hn hl hb0 hm hpk
  cases v with
  | false =>
    rw [addP_bad hv]
    clear hv
    go_enter Try.func22, Try.ntmps22
    go_wp2_with (go_at_call 12; (with_reducible refine C12.out.mono ?_); rintro e w1 ⟨rfl, b1⟩; have HB1 := Lib.hid (HB0.out.trans (b1.mono HB0.out.size)); clear b1)
    go_ret
    exact ⟨rfl, StepW.same H.out HB1.out⟩
  | true =>
    have HV := Lib.hid hv
    have hvq := validP_iff.1 hv
    have HVQ := Lib.hid hvq
    clear hv hvq
    go_enter Try.func22, Try.ntmps22
    go_upto_region 5 with (go_at_call 12; (with_reducible refine C12.out.mono ?_); rintro e w1 ⟨rfl, b1⟩; have HB1 := Lib.hid (HB0.out.trans (b1.mono HB0.out.size)); have HK1 := Lib.hid (HK0.out.below b1 HK0.out.lt); clear b1)
    have HS1 := Lib.hid (H.out.below HB1.out)
    have HAS : AddS w.heap.size g t s.last w1.drew := by
      have k0 := HK1.out.cell 0
      have k1 := HS1.out.blk.cell 2
      simp at k0 k1
      exact ⟨k0, k1⟩
    refine wp_region_G (S0 := (AddS w.heap.size g t s.last)) (S1 := (AddS w.heap.size g t s.last)) (c := 99) (by kernel_rfl) ?_
    have hHeld := HAS
    have h01 := (fun (W : World) (h : (AddS w.heap.size g t s.last) W) => h)
    refine wpG_takeB (i := 0) (oi := ⟨some 14, _, _, _, _, _⟩) (v := .pointer (some ⟨w.heap.size, 0, none⟩)) rfl (by kernel_rfl) (by kernel_rfl) (by kernel_rfl) (by decide) (fun _ _ _ h => h) h01 rfl hHeld (Or.inl ⟨by rfl, ?_⟩) ?_
    · (intro W9 hSw; obtain ⟨v1, v2⟩ := hSw; go_simp; (try (first | with_reducible rfl | rfl | (simp; done))))
    try simp only [Act.put, List.setIfInBounds_toArray, List.set_cons_zero, List.set_cons_succ]
    refine wpG_takeB (i := 1) (oi := ⟨some 15, _, _, _, _, _⟩) (v := .int .i64 t) rfl (by kernel_rfl) (by kernel_rfl) (by kernel_rfl) (by decide) (fun _ _ _ h => h) h01 rfl hHeld (Or.inl ⟨by rfl, ?_⟩) ?_
    · (intro W9 hSw; obtain ⟨v1, v2⟩ := hSw; go_simp; (try (first | with_reducible rfl | rfl | (simp; done))))
    try simp only [Act.put, List.setIfInBounds_toArray, List.set_cons_zero, List.set_cons_succ]
    refine wpG_takeB (i := 2) (oi := ⟨some 16, _, _, _, _, _⟩) (v := .pointer (some ⟨g, 0, none⟩)) rfl (by kernel_rfl) (by kernel_rfl) (by kernel_rfl) (by decide) (fun _ _ _ h => h) h01 rfl hHeld (Or.inl ⟨by rfl, ?_⟩) ?_
    · (intro W9 hSw; obtain ⟨v1, v2⟩ := hSw; go_simp; (try (first | with_reducible rfl | rfl | (simp; done))))
    try simp only [Act.put, List.setIfInBounds_toArray, List.set_cons_zero, List.set_cons_succ]
    refine wpG_takeB (i := 3) (oi := ⟨some 17, _, _, _, _, _⟩) (v := .pointer (some ⟨g, 0, none⟩)) rfl (by kernel_rfl) (by kernel_rfl) (by kernel_rfl) (by decide) (fun _ _ _ h => h) h01 rfl hHeld (Or.inl ⟨by rfl, ?_⟩) ?_
    · (intro W9 hSw; obtain ⟨v1, v2⟩ := hSw; go_simp; (try (first | with_reducible rfl | rfl | (simp; done))))
    try simp only [Act.put, List.setIfInBounds_toArray, List.set_cons_zero, List.set_cons_succ]
    refine wpG_takeB (i := 4) (oi := ⟨some 18, _, _, _, _, _⟩) (v := .pointer (some ⟨g, 2, none⟩)) rfl (by kernel_rfl) (by kernel_rfl) (by kernel_rfl) (by decide) (fun _ _ _ h => h) h01 rfl hHeld (Or.inl ⟨by rfl, ?_⟩) ?_
    · (intro W9 hSw; obtain ⟨v1, v2⟩ := hSw; go_simp; (try (first | with_reducible rfl | rfl | (simp; done))))
    try simp only [Act.put, List.setIfInBounds_toArray, List.set_cons_zero, List.set_cons_succ]
    refine wpG_takeB (i := 5) (oi := ⟨some 19, _, _, _, _, _⟩) (v := .int .i64 s.last) rfl (by kernel_rfl) (by kernel_rfl) (by kernel_rfl) (by decide) (fun _ _ _ h => h) h01 rfl hHeld (Or.inl ⟨by rfl, ?_⟩) ?_
    · (intro W9 hSw; obtain ⟨v1, v2⟩ := hSw; go_simp; (try (first | with_reducible rfl | rfl | (simp; done))))
    try simp only [Act.put, List.setIfInBounds_toArray, List.set_cons_zero, List.set_cons_succ]
    refine wpG_takeB (i := 6) (oi := ⟨some 20, _, _, _, _, _⟩) (v := .bool (decide (t < s.last))) rfl (by kernel_rfl) (by kernel_rfl) (by kernel_rfl) (by decide) (fun _ _ _ h => h) h01 rfl hHeld (Or.inl ⟨by rfl, ?_⟩) ?_
    · (intro W9 hSw; obtain ⟨v1, v2⟩ := hSw; go_simp; (try (first | with_reducible rfl | rfl | (simp; done))))
    try simp only [Act.put, List.setIfInBounds_toArray, List.set_cons_zero, List.set_cons_succ]
    refine wpG_takeB (i := 7) (oi := ⟨some 13, _, _, _, _, _⟩) (v := .bool (decide (t < s.last))) rfl (by kernel_rfl) (by kernel_rfl) (by kernel_rfl) (by decide) (fun _ _ _ h => h) h01 rfl hHeld (Or.inl ⟨by rfl, ?_⟩) ?_
    · (intro W9 hSw; obtain ⟨v1, v2⟩ := hSw; go_simp; (try (first | with_reducible rfl | rfl | (simp; done))))
    try simp only [Act.put, List.setIfInBounds_toArray, List.set_cons_zero, List.set_cons_succ]
    refine wpG_done (by kernel_rfl) ?_ _
    clear hHeld h01 HAS
    by_cases hlt : t < s.last
    · rw [decide_eq_true hlt]
      have HF := Lib.hid (addP_old HV.out hlt)
      clear hlt
      go_wp2_with fail
      go_ret
      rw [HF.out]
      exact ⟨rfl, StepW.same H.out (below_drew HB1.out)⟩
    rw [decide_eq_false hlt]
    have HNLT := Lib.hid hlt
    have C49 := Lib.hid (clone_any A n c d w1.drew (by have := HN.out; omega) (HP.out.r.below (below_drew HB1.out)))
    have kq := HK1.out.cell 2
    simp at kq
    clear hlt
    go_wp2_with (go_at_call 49; (with_reducible refine C49.out.mono ?_); rintro e w2 ⟨v2, rfl, o2, b2⟩; rw [show d.length = n from HP.out.r.len] at o2; obtain ⟨A2, c2, rfl, -⟩ := own_form o2; have HO2 := Lib.hid o2; have HB2 := Lib.hid (HB1.out.trans ((below_drew0 b2).mono HB1.out.size)); have HB12 := Lib.hid (below_drew0 b2); have HK2 := Lib.hid (HK1.out.below (below_drew0 b2) HK1.out.lt); clear o2 b2; refine Hid.out ?_)
    refine Lib.hid ?_
    clear kq
    have kq := HK2.out.cell 2
    simp at kq
    have kz := HK2.out.frozen 2
    go_upto_region 8 with fail
    have hon3 : Only (fun k => k = w.heap.size) w2 (w2.setCell ⟨w.heap.size, 2, none⟩ (.slice A2 n c2)) := Only.set (p := fun k => k = w.heap.size) (Only.refl _ w2) (fun _ => rfl) 2 _
    have hk3 := HK2.out.set_ 2 (.slice A2 n c2)
    simp only [List.setIfInBounds_toArray, List.set_cons_zero, List.set_cons_succ] at hk3
    have hd3 := own_only HO2.out hon3 fun k hk e => own_ne HO2.out HK2.out (by decide) (e ▸ hk)
    obtain ⟨W3, hW3⟩ : ∃ W3, w2.setCell ⟨w.heap.size, 2, none⟩ (.slice A2 n c2) = W3 := ⟨_, rfl⟩
    rw [hW3] at hon3 hk3 hd3 ⊢
    have HB3 := Lib.hid (HB2.out.trans (hon3.to_below HB2.out.size fun b hlt e => by omega))
    have HK3 := Lib.hid hk3
    have HD3 := Lib.hid (own_base hd3 (show w.heap.size ≤ w1.drew.heap.size from HB1.out.size))
    have HS3 := Lib.hid (H.out.below HB3.out)
    have HAL : Hid (AddL w.heap.size g t f (.slice A2 n c2) (.slice A1 m c1) W3.drew) := Lib.hid (by
      have k0 := HK3.out.cell 0
      have k1 := HK3.out.cell 1
      have k2 := HK3.out.cell 2
      have k3 := HS3.out.blk.cell 1
      simp at k0 k1 k2 k3
      exact ⟨k0, k1, k2, k3⟩)
    have C50 := Lib.hid (fun (W : World) (hb : Below W3.heap.size W3 W) => clonep_any A1 m c1 ds W (HS3.out.po.pl.below hb) (by have := HM.out; omega))
    clear hon3 hk3 hd3 hW3 kq kz
    go_cut [5] from 25 (fun nx wx => ∃ (A5 : Option Addr) (c5 : Nat), nx = .slice A5 (m + 1) c5 ∧ Hid (Reg8 W3 wx w.heap.size ds ⟨t, f, A2, n, c2, d⟩ (.slice A5 (m + 1) c5)))
    case first =>
      have HBc := Lib.hid (below_drew (Below.refl W3.heap.size W3))
      refine wp_region_G (S0 := (AddL w.heap.size g t f (.slice A2 n c2) (.slice A1 m c1))) (S1 := (AddL w.heap.size g t f (.slice A2 n c2) (.slice A1 m c1))) (c := 99) (by kernel_rfl) ?_
      have hHeld := HAL.out
      have h01 := (fun (W : World) (h : (AddL w.heap.size g t f (.slice A2 n c2) (.slice A1 m c1)) W) => h)
      refine wpG_takeB (i := 0) (oi := ⟨some 25, _, _, _, _, _⟩) (v := .pointer (some ⟨g, 0, none⟩)) rfl (by kernel_rfl) (by kernel_rfl) (by kernel_rfl) (by decide) (fun _ _ _ h => h) h01 rfl hHeld (Or.inl ⟨by rfl, ?_⟩) ?_
      · (intro W9 hSw; obtain ⟨v1, v2, v3, v4⟩ := hSw; go_simp; (try (first | with_reducible rfl | rfl | (simp; done))))
      try simp only [Act.put, List.setIfInBounds_toArray, List.set_cons_zero, List.set_cons_succ]
      refine wpG_takeB (i := 1) (oi := ⟨some 26, _, _, _, _, _⟩) (v := .pointer (some ⟨g, 0, none⟩)) rfl (by kernel_rfl) (by kernel_rfl) (by kernel_rfl) (by decide) (fun _ _ _ h => h) h01 rfl hHeld (Or.inl ⟨by rfl, ?_⟩) ?_
      · (intro W9 hSw; obtain ⟨v1, v2, v3, v4⟩ := hSw; go_simp; (try (first | with_reducible rfl | rfl | (simp; done))))
      try simp only [Act.put, List.setIfInBounds_toArray, List.set_cons_zero, List.set_cons_succ]
      refine wpG_takeB (i := 2) (oi := ⟨some 27, _, _, _, _, _⟩) (v := .pointer (some ⟨g, 1, none⟩)) rfl (by kernel_rfl) (by kernel_rfl) (by kernel_rfl) (by decide) (fun _ _ _ h => h) h01 rfl hHeld (Or.inl ⟨by rfl, ?_⟩) ?_
      · (intro W9 hSw; obtain ⟨v1, v2, v3, v4⟩ := hSw; go_simp; (try (first | with_reducible rfl | rfl | (simp; done))))
      try simp only [Act.put, List.setIfInBounds_toArray, List.set_cons_zero, List.set_cons_succ]
      refine wpG_takeB (i := 3) (oi := ⟨some 28, _, _, _, _, _⟩) (v := .slice A1 m c1) rfl (by kernel_rfl) (by kernel_rfl) (by kernel_rfl) (by decide) (fun _ _ _ h => h) h01 rfl hHeld (Or.inl ⟨by rfl, ?_⟩) ?_
      · (intro W9 hSw; obtain ⟨v1, v2, v3, v4⟩ := hSw; go_simp; (try (first | with_reducible rfl | rfl | (simp; done))))
      try simp only [Act.put, List.setIfInBounds_toArray, List.set_cons_zero, List.set_cons_succ]
      refine wpG_takeB (i := 5) (oi := ⟨some 30, _, _, _, _, _⟩) (v := .agg #[.int .i64 t, .int .i64 f, .slice A2 n c2]) rfl (by kernel_rfl) (by kernel_rfl) (by kernel_rfl) (by decide) (fun _ _ _ h => h) h01 rfl hHeld (Or.inl ⟨by rfl, ?_⟩) ?_
      · (intro W9 hSw; obtain ⟨v1, v2, v3, v4⟩ := hSw; go_simp; (try (first | with_reducible rfl | rfl | (simp; done))))
      try simp only [Act.put, List.setIfInBounds_toArray, List.set_cons_zero, List.set_cons_succ]
      refine wpG_twoB (i := 4) (j := 6) (oi := ⟨some 29, _, _, _, _, _⟩) (oj := ⟨some 31, _, _, _, _, _⟩) (by kernel_rfl) rfl rfl rfl rfl (fun K hK => ?_) (fun K hK => ?_)
      · go_simp
        (with_reducible refine (C50.out _ HBc.out).mono ?_); rintro e w4 ⟨v4, rfl, o4, b4⟩
        rw [HDM.out] at o4
        obtain ⟨A4, c4, rfl, -⟩ := own_formS o4
        have hbn := b4
        have HBp := HBc
        have HBc := Lib.hid (HBp.out.trans (hbn.mono HBp.out.size))
        (try have HNc := Lib.hid (HNc.out.keep (hbn.mono (Nat.le_refl _))))
        have HOw := Lib.hid (own_base o4 (show W3.heap.size ≤ _ from HBp.out.size))
        have HOc := Lib.hid (own_base o4 (Nat.le_trans HB3.out.size HBp.out.size))
        clear o4 b4
        refine hK.out _ _ (hHeld.below hbn) (fun hHeld => ?_)
        clear hbn
        clear hK K
        try simp only [Act.put, List.setIfInBounds_toArray, List.set_cons_zero, List.set_cons_succ]
        refine wpG_oneB (i := 6) (o := ⟨some 31, _, _, _, _, _⟩) (by kernel_rfl) rfl rfl (fun K hK => ?_)
        go_simp
        have hbn := (show Below w4.heap.size w4 (w4.alloc (.cells #[.int .i64 t, .int .i64 f, .slice A2 n c2] 31)) from (Below.refl w4.heap.size w4).alloc (Nat.le_refl _) (.cells #[.int .i64 t, .int .i64 f, .slice A2 n c2] 31))
        have HBp := HBc
        have HBc := Lib.hid (HBp.out.trans (hbn.mono HBp.out.size))
        have HNc : Hid (HoldsS (w4.alloc (.cells #[.int .i64 t, .int .i64 f, .slice A2 n c2] 31)) 3 (some ⟨w4.heap.size, 0, none⟩) 1 [.int .i64 t, .int .i64 f, .slice A2 n c2]) := Lib.hid (HoldsS.new w4 3 1 [.int .i64 t, .int .i64 f, .slice A2 n c2] 31 rfl)
        (try have HOw := Lib.hid (own_alloc (o := (.cells #[.int .i64 t, .int .i64 f, .slice A2 n c2] 31)) HOw.out))
        (try have HOc := Lib.hid (own_alloc (o := (.cells #[.int .i64 t, .int .i64 f, .slice A2 n c2] 31)) HOc.out))
        refine hK.out _ _ (hHeld.below hbn) (fun hHeld => ?_)
        clear hbn
        clear hK K
        try simp only [Act.put, List.setIfInBounds_toArray, List.set_cons_zero, List.set_cons_succ]
        refine wpG_oneB (i := 7) (o := ⟨some 32, _, _, _, _, _⟩) (by kernel_rfl) rfl rfl (fun K hK => ?_)
        refine step_app_sz (base := w.heap.size) (n := m) (m := 1) (xs := ds.flatMap Pd.cells) (news := [.int .i64 t, .int .i64 f, .slice A2 n c2]) rfl (.tmp 29) (.tmp 31) 22 rfl elP rfl HOc.out rfl HNc.out (by simp [Value.oneCell']) (by have := HM.out; unfold maxLen; omega) (by have := HM.out; omega) (by have := HB3.out.size; have := HBc.out.size; simp at *; omega) (by simp) ?_
        intro v9 w9 hown hg
        obtain ⟨A5, c5, rfl, -⟩ := own_formS hown
        have HB9 := Lib.hid (below_own HBc.out HBc.out.size HOw.out hg)
        have HF := Lib.hid (show Reg8 W3 w9 w.heap.size ds ⟨t, f, A2, n, c2, d⟩ (.slice A5 (m + 1) c5) from ⟨HB9.out, by rw [HDM.out]; simpa [Pd.cells] using hown⟩)
        clear hown hg
        refine hK.out _ _ (AddL.below (W := W3) HAL.out HB9.out) (fun hHeld => ?_)
        clear hK K
        try simp only [Act.put, List.setIfInBounds_toArray, List.set_cons_zero, List.set_cons_succ]
        refine wpG_takeB (i := 8) (oi := ⟨some 5, _, _, _, _, _⟩) (v := .slice A5 (m + 1) c5) rfl (by kernel_rfl) (by kernel_rfl) (by kernel_rfl) (by decide) (fun _ _ _ h => h) h01 rfl hHeld (Or.inl ⟨by rfl, ?_⟩) ?_
        · (intro W9 hSw; obtain ⟨v1, v2, v3, v4⟩ := hSw; go_simp; (try (first | with_reducible rfl | rfl | (simp; done))))
        try simp only [Act.put, List.setIfInBounds_toArray, List.set_cons_zero, List.set_cons_succ]
        refine wpG_done (by kernel_rfl) ?_ _
        go_wp2_with fail
        go_meet
        exact ⟨_, _, rfl, HF⟩
      · go_simp
        have hbn := (show Below (W3.drew).heap.size (W3.drew) ((W3.alloc (.cells #[.int .i64 t, .int .i64 f, .slice A2 n c2] 31)).drew) from (Below.refl (W3.drew).heap.size (W3.drew)).alloc (Nat.le_refl _) (.cells #[.int .i64 t, .int .i64 f, .slice A2 n c2] 31))
        have HBp := HBc
        have HBc := Lib.hid (HBp.out.trans (hbn.mono HBp.out.size))
        have HNc : Hid (HoldsS ((W3.alloc (.cells #[.int .i64 t, .int .i64 f, .slice A2 n c2] 31)).drew) 3 (some ⟨W3.heap.size, 0, none⟩) 1 [.int .i64 t, .int .i64 f, .slice A2 n c2]) := Lib.hid (HoldsS.new (W3.drew) 3 1 [.int .i64 t, .int .i64 f, .slice A2 n c2] 31 rfl)
        (try have HOw := Lib.hid (own_alloc (o := (.cells #[.int .i64 t, .int .i64 f, .slice A2 n c2] 31)) HOw.out))
        (try have HOc := Lib.hid (own_alloc (o := (.cells #[.int .i64 t, .int .i64 f, .slice A2 n c2] 31)) HOc.out))
        refine hK.out _ _ (hHeld.below hbn) (fun hHeld => ?_)
        clear hbn
        clear hK K
        try simp only [Act.put, List.setIfInBounds_toArray, List.set_cons_zero, List.set_cons_succ]
        refine wpG_oneB (i := 4) (o := ⟨some 29, _, _, _, _, _⟩) (by kernel_rfl) rfl rfl (fun K hK => ?_)
        go_simp
        (with_reducible refine (C50.out _ HBc.out).mono ?_); rintro e w4 ⟨v4, rfl, o4, b4⟩
        rw [HDM.out] at o4
        obtain ⟨A4, c4, rfl, -⟩ := own_formS o4
        have hbn := b4
        have HBp := HBc
        have HBc := Lib.hid (HBp.out.trans (hbn.mono HBp.out.size))
        (try have HNc := Lib.hid (HNc.out.keep (hbn.mono (Nat.le_refl _))))
        have HOw := Lib.hid (own_base o4 (show W3.heap.size ≤ _ from HBp.out.size))
        have HOc := Lib.hid (own_base o4 (Nat.le_trans HB3.out.size HBp.out.size))
        clear o4 b4
        refine hK.out _ _ (hHeld.below hbn) (fun hHeld => ?_)
        clear hbn
        clear hK K
        try simp only [Act.put, List.setIfInBounds_toArray, List.set_cons_zero, List.set_cons_succ]
        refine wpG_oneB (i := 7) (o := ⟨some 32, _, _, _, _, _⟩) (by kernel_rfl) rfl rfl (fun K hK => ?_)
        refine step_app_sz (base := w.heap.size) (n := m) (m := 1) (xs := ds.flatMap Pd.cells) (news := [.int .i64 t, .int .i64 f, .slice A2 n c2]) rfl (.tmp 29) (.tmp 31) 22 rfl elP rfl HOc.out rfl HNc.out (by simp [Value.oneCell']) (by have := HM.out; unfold maxLen; omega) (by have := HM.out; omega) (by have := HB3.out.size; have := HBc.out.size; simp at *; omega) (by simp) ?_
        intro v9 w9 hown hg
        obtain ⟨A5, c5, rfl, -⟩ := own_formS hown
        have HB9 := Lib.hid (below_own HBc.out HBc.out.size HOw.out hg)
        have HF := Lib.hid (show Reg8 W3 w9 w.heap.size ds ⟨t, f, A2, n, c2, d⟩ (.slice A5 (m + 1) c5) from ⟨HB9.out, by rw [HDM.out]; simpa [Pd.cells] using hown⟩)
        clear hown hg
        refine hK.out _ _ (AddL.below (W := W3) HAL.out HB9.out) (fun hHeld => ?_)
        clear hK K
        try simp only [Act.put, List.setIfInBounds_toArray, List.set_cons_zero, List.set_cons_succ]
        refine wpG_takeB (i := 8) (oi := ⟨some 5, _, _, _, _, _⟩) (v := .slice A5 (m + 1) c5) rfl (by kernel_rfl) (by kernel_rfl) (by kernel_rfl) (by decide) (fun _ _ _ h => h) h01 rfl hHeld (Or.inl ⟨by rfl, ?_⟩) ?_
        · (intro W9 hSw; obtain ⟨v1, v2, v3, v4⟩ := hSw; go_simp; (try (first | with_reducible rfl | rfl | (simp; done))))
        try simp only [Act.put, List.setIfInBounds_toArray, List.set_cons_zero, List.set_cons_succ]
        refine wpG_done (by kernel_rfl) ?_ _
        go_wp2_with fail
        go_meet
        exact ⟨_, _, rfl, HF⟩
    case rest =>
      obtain ⟨A5, c5, rfl, HG⟩ := hcut
      obtain ⟨p2, hp2⟩ : ∃ p2 : Pd, (⟨t, f, A2, n, c2, d⟩ : Pd) = p2 := ⟨_, rfl⟩
      have HP2 := Lib.hid hp2
      have hpk2 : p2.pk = ⟨t, f, d⟩ := by rw [← hp2]; rfl
      have HPK2 := Lib.hid hpk2
      rw [hp2] at HG
      have HB4 := Lib.hid (HB3.out.trans (HG.out.below.mono HB3.out.size))
      have HD4 : Hid (wc.ownsRow w.heap.size 5 1 p2.data p2.n (p2.d.map Go.Proofs.Ytgbkoegmoelheaa.u8)) := Lib.hid (by rw [← hp2]; exact own_keeps HD3.out fun k hk => HG.out.below.block k (own_lt HD3.out k hk))
      have hpo : PO B wc (.slice A5 (m + 1) c5) (ds ++ [p2]) := by
        have h3 := HS3.out.po.below HG.out.below
        refine ⟨?_, fun q hq => ?_, fun q hq => ?_⟩
        · rw [List.length_append]; exact own_base HG.out.own H.out.base
        · rcases List.mem_append.1 hq with h1 | h1
          · exact h3.data q h1
          · rw [List.mem_singleton.1 h1]; exact own_base HD4.out H.out.base
        · rcases List.mem_append.1 hq with h1 | h1
          · exact h3.rng q h1
          · rw [List.mem_singleton.1 h1, ← hp2]; exact ⟨HP.out.t1, HP.out.t2, HP.out.f1, HP.out.f2⟩
      have HPO := Lib.hid hpo
      have hvd : ∀ q ∈ ds ++ [p2], 0 ≤ q.t ∧ q.t ≤ 1099511627776 ∧ q.n ≤ 30000 := fun q hq => by
        rcases List.mem_append.1 hq with h1 | h1
        · have := H.out.po.pl.valid H.out.valid q h1
          omega
        · rw [List.mem_singleton.1 h1, ← hp2]
          have := HVQ.out
          have h2 : n ≤ 30000 := HN.out
          exact ⟨this.1, this.2.1, h2⟩
      have hlen2 : (ds ++ [p2]).length = m + 1 := by rw [List.length_append, HDM.out]; rfl
      have C32 := block_any A5 (m + 1) c5 (ds ++ [p2]) wc hpo.pl (by have := HM.out; omega) (fun q hq => ⟨(hvd q hq).1, (hvd q hq).2.1⟩) (fun q hq => (hvd q hq).2.2)
      have hks : pks (ds ++ [p2]) = s.l ++ [⟨t, f, d⟩] := by rw [pks, List.map_append, ← H.out.eq, ← hpk2]; rfl
      have HKS := Lib.hid hks
      rw [hks] at C32
      have HK4 := Lib.hid (HK3.out.below HG.out.below HK3.out.lt)
      obtain ⟨fit, hfit⟩ : ∃ fit, fitsP (s.l ++ [⟨t, f, d⟩]) = fit := ⟨_, rfl⟩
      rw [hfit] at C32
      have C32 := Lib.hid C32
      clear hp2 hpk2 hpo hvd hlen2 hks
      cases fit with
      | true =>
        have HF := Lib.hid (addP_fit HV.out (show ¬ t < s.last by have := HNLT.out; omega) hfit)
        clear hfit
        go_upto_region 12 with (go_at_call 32; (with_reducible refine C32.out.mono ?_); rintro e w6 ⟨rfl, b6⟩; have HB6 := Lib.hid b6; clear b6)
        have HBW := Lib.hid (HB4.out.trans (HB6.out.mono HB4.out.size))
        have HPO6 := Lib.hid (HPO.out.below HB6.out)
        have HS6 := Lib.hid (H.out.below HBW.out)
        have HBK := Lib.hid HS6.out.blk
        have HGB := Lib.hid (show w.heap.size ≠ g by have := H.out.blk.lt; omega)
        have HKP : ∀ {W : World} {i : Nat} {u : Value} {b : Nat}, b ≠ g → W.cell? ⟨b, 0, none⟩ = some (.int .i64 t) → (W.setCell ⟨g, i, none⟩ u).cell? ⟨b, 0, none⟩ = some (.int .i64 t) := fun hne hc => by
          rw [← hc]; unfold World.cell?; rw [Below.heap_setCell _ _ _ _ hne]
        have HT0 : Hid (w6.drew.cell? ⟨w.heap.size, 0, none⟩ = some (.int .i64 t)) := Lib.hid (by have := (HK4.out.below HB6.out HK4.out.lt).cell 0; simpa using this)
        refine wp_region_G (S0 := (fun W => W.cell? ⟨w.heap.size, 0, none⟩ = some (.int .i64 t))) (S1 := (fun W => W.cell? ⟨w.heap.size, 0, none⟩ = some (.int .i64 t))) (c := 99) (by kernel_rfl) ?_
        have hHeld := HT0.out
        have h01 := (fun (W : World) (h : (fun W => W.cell? ⟨w.heap.size, 0, none⟩ = some (.int .i64 t)) W) => h)
        refine wpG_takeB (i := 0) (oi := ⟨some 40, _, _, _, _, _⟩) (v := .pointer (some ⟨g, 0, none⟩)) rfl (by kernel_rfl) (by kernel_rfl) (by kernel_rfl) (by decide) (fun _ _ _ h => h) h01 rfl hHeld (Or.inl ⟨by rfl, ?_⟩) ?_
        · (intro W9 hSw; have v1 := hSw; go_simp; (try (first | with_reducible rfl | rfl | (simp; done))))
        try simp only [Act.put, List.setIfInBounds_toArray, List.set_cons_zero, List.set_cons_succ]
        refine wpG_takeB (i := 1) (oi := ⟨some 41, _, _, _, _, _⟩) (v := .pointer (some ⟨g, 0, none⟩)) rfl (by kernel_rfl) (by kernel_rfl) (by kernel_rfl) (by decide) (fun _ _ _ h => h) h01 rfl hHeld (Or.inl ⟨by rfl, ?_⟩) ?_
        · (intro W9 hSw; have v1 := hSw; go_simp; (try (first | with_reducible rfl | rfl | (simp; done))))
        try simp only [Act.put, List.setIfInBounds_toArray, List.set_cons_zero, List.set_cons_succ]
        refine wpG_takeB (i := 2) (oi := ⟨some 42, _, _, _, _, _⟩) (v := .slice A5 (m + 1) c5) rfl (by kernel_rfl) (by kernel_rfl) (by kernel_rfl) (by decide) (fun _ _ _ h => h) h01 rfl hHeld (Or.inl ⟨by rfl, ?_⟩) ?_
        · (intro W9 hSw; have v1 := hSw; go_simp; (try (first | with_reducible rfl | rfl | (simp; done))))
        try simp only [Act.put, List.setIfInBounds_toArray, List.set_cons_zero, List.set_cons_succ]
        refine wpG_takeB (i := 3) (oi := ⟨some 43, _, _, _, _, _⟩) (v := .pointer (some ⟨w.heap.size, 0, none⟩)) rfl (by kernel_rfl) (by kernel_rfl) (by kernel_rfl) (by decide) (fun _ _ _ h => h) h01 rfl hHeld (Or.inl ⟨by rfl, ?_⟩) ?_
        · (intro W9 hSw; have v1 := hSw; go_simp; (try (first | with_reducible rfl | rfl | (simp; done))))
        try simp only [Act.put, List.setIfInBounds_toArray, List.set_cons_zero, List.set_cons_succ]
        refine wpG_takeB (i := 4) (oi := ⟨some 44, _, _, _, _, _⟩) (v := .int .i64 t) rfl (by kernel_rfl) (by kernel_rfl) (by kernel_rfl) (by decide) (fun _ _ _ h => h) h01 rfl hHeld (Or.inl ⟨by rfl, ?_⟩) ?_
        · (intro W9 hSw; have v1 := hSw; go_simp; (try (first | with_reducible rfl | rfl | (simp; done))))
        try simp only [Act.put, List.setIfInBounds_toArray, List.set_cons_zero, List.set_cons_succ]
        refine wpG_takeB (i := 5) (oi := ⟨some 45, _, _, _, _, _⟩) (v := .pointer (some ⟨g, 0, none⟩)) rfl (by kernel_rfl) (by kernel_rfl) (by kernel_rfl) (by decide) (fun _ _ _ h => h) h01 rfl hHeld (Or.inl ⟨by rfl, ?_⟩) ?_
        · (intro W9 hSw; have v1 := hSw; go_simp; (try (first | with_reducible rfl | rfl | (simp; done))))
        try simp only [Act.put, List.setIfInBounds_toArray, List.set_cons_zero, List.set_cons_succ]
        refine wpG_takeB (i := 6) (oi := ⟨some 46, _, _, _, _, _⟩) (v := .pointer (some ⟨g, 1, none⟩)) rfl (by kernel_rfl) (by kernel_rfl) (by kernel_rfl) (by decide) (fun _ _ _ h => h) h01 rfl hHeld (Or.inl ⟨by rfl, ?_⟩) ?_
        · (intro W9 hSw; have v1 := hSw; go_simp; (try (first | with_reducible rfl | rfl | (simp; done))))
        try simp only [Act.put, List.setIfInBounds_toArray, List.set_cons_zero, List.set_cons_succ]
        refine wpG_oneB (i := 7) (o := ⟨none, _, _, _, _, _⟩) (by kernel_rfl) rfl rfl (fun K hK => ?_)
        have kq := HBK.out.cell 1
        simp at kq
        have kz := HBK.out.frozen 1
        go_simp
        refine hK.out _ _ (HKP HGB.out hHeld) (fun hHeld => ?_)
        clear kq kz
        have HBK := Lib.hid (HBK.out.set_ 1 (.slice A5 (m + 1) c5))
        clear hK K
        try simp only [Act.put, List.setIfInBounds_toArray, List.set_cons_zero, List.set_cons_succ]
        refine wpG_takeB (i := 8) (oi := ⟨some 47, _, _, _, _, _⟩) (v := .pointer (some ⟨g, 0, none⟩)) rfl (by kernel_rfl) (by kernel_rfl) (by kernel_rfl) (by decide) (fun _ _ _ h => h) h01 rfl hHeld (Or.inl ⟨by rfl, ?_⟩) ?_
        · (intro W9 hSw; have v1 := hSw; go_simp; (try (first | with_reducible rfl | rfl | (simp; done))))
        try simp only [Act.put, List.setIfInBounds_toArray, List.set_cons_zero, List.set_cons_succ]
        refine wpG_takeB (i := 9) (oi := ⟨some 48, _, _, _, _, _⟩) (v := .pointer (some ⟨g, 2, none⟩)) rfl (by kernel_rfl) (by kernel_rfl) (by kernel_rfl) (by decide) (fun _ _ _ h => h) h01 rfl hHeld (Or.inl ⟨by rfl, ?_⟩) ?_
        · (intro W9 hSw; have v1 := hSw; go_simp; (try (first | with_reducible rfl | rfl | (simp; done))))
        try simp only [Act.put, List.setIfInBounds_toArray, List.set_cons_zero, List.set_cons_succ]
        refine wpG_oneB (i := 10) (o := ⟨none, _, _, _, _, _⟩) (by kernel_rfl) rfl rfl (fun K hK => ?_)
        have kq := HBK.out.cell 2
        simp at kq
        have kz := HBK.out.frozen 2
        go_simp
        refine hK.out _ _ (HKP HGB.out hHeld) (fun hHeld => ?_)
        clear kq kz
        clear hK K
        try simp only [Act.put, List.setIfInBounds_toArray, List.set_cons_zero, List.set_cons_succ]
        refine wpG_done (by kernel_rfl) ?_ _
        clear hHeld h01 HT0 HBK
        go_wp2_with fail
        go_ret
        rw [HF.out]
        have h := H.out
        have hws := WS.put (v := .slice A5 (m + 1) c5) (s2 := ⟨s.b, s.l ++ [⟨t, f, d⟩], t⟩) HS6.out.blk HS6.out.own HPO6.out HKS.out (Nat.le_trans h.base HBW.out.size) h.gB (fun q hq j hj e => by
          rcases List.mem_append.1 hq with h1 | h1
          · exact h.sep q h1 j hj e
          · rw [List.mem_singleton.1 h1] at e
            have h2 := (HD4.out.lt j e).1
            have h3 := own_lt h.own j hj
            omega) (by have := addP_ok h.ok ⟨t, f, d⟩; rw [HF.out] at this; exact this)
        have hon : Only (WF g vb) w ((w6.setCell ⟨g, 1, none⟩ (.slice A5 (m + 1) c5)).setCell ⟨g, 2, none⟩ (.int .i64 t)) := Only.set (Only.set (Only.of_below HBW.out) (fun _ => .inl rfl) 1 _) (fun _ => .inl rfl) 2 _
        refine ⟨rfl, vb, _, _, WS.below hws (below_drew (Below.refl _ _)), ⟨hon.os, hon.tape, hon.output, hon.size, hon.block⟩, Hat.refl _ _, fun k hlt hk => ?_⟩
        rcases hk with hk | hk | ⟨q, hq, hk⟩
        · exact .inl hk
        · have := (HG.out.own.lt k hk).1
          omega
        · rcases List.mem_append.1 hq with h1 | h1
          · exact .inr (.inr ⟨q, h1, hk⟩)
          · rw [List.mem_singleton.1 h1] at hk
            have := (HD4.out.lt k hk).1
            omega
      | false =>
        have HF := Lib.hid (addP_new HV.out (show ¬ t < s.last by have := HNLT.out; omega) hfit)
        clear hfit
        have C21 := Lib.hid (fun (W : World) (hb : Below w.heap.size w W) => close_any W B g vb (.slice A1 m c1) ds s (H.out.below hb) (by have := HL.out; omega))
        go_wp2_with (first | (go_at_call 32; (with_reducible refine C32.out.mono ?_); rintro e w6 ⟨rfl, b6⟩; have HB6 := Lib.hid b6; have HBW := Lib.hid (HB4.out.trans (b6.mono HB4.out.size)); clear b6) | (go_at_call 21; (with_reducible refine (C21.out _ HBW.out).mono ?_); rintro e w8 ⟨rfl, h8⟩; have HS8 := Lib.hid h8; clear h8; refine Hid.out ?_))
        refine Lib.hid ?_
        obtain ⟨vb2, vl2, ds2, hws8, hon8, hhat8, hwk8⟩ := HS8.out
        have hd2 : ds2 = [] := by
          have h1 := hws8.eq
          rw [closeP_l] at h1
          exact List.map_eq_nil_iff.1 h1
        subst hd2
        have HWS8 := Lib.hid hws8
        have HON8 := Lib.hid hon8
        have HHAT8 := Lib.hid hhat8
        have hwf : ∀ k, WF g vb k → k < w.heap.size := fun k hk => H.out.lt k (.inl hk)
        have hk8 := (HK4.out.below HB6.out HK4.out.lt).only hon8 (fun e => by have := hwf _ e; omega)
        have hd8 := own_only (own_keeps HD4.out fun k hk => HB6.out.block k (own_lt HD4.out k hk)) hon8 (fun k hk e => by have := hwf _ e; have := (HD4.out.lt k hk).1; omega)
        have HK8 := Lib.hid hk8
        have HD8 := Lib.hid hd8
        have f0 := hk8.cell 0
        have f1 := hk8.cell 1
        have f2 := hk8.cell 2
        simp at f0 f1 f2
        clear hws8 hon8 hhat8 hwk8 hwf hk8 hd8
        go_upto_region 12 with fail
        clear f0 f1 f2
        have HBN := Lib.hid ((Below.refl w8.heap.size w8).alloc (Nat.le_refl _) (.cells #[.int .i64 t, .int .i64 f, .slice A2 n c2] 31))
        have HWS9 := Lib.hid (HWS8.out.below HBN.out)
        have HBK := Lib.hid HWS9.out.blk
        have HGB := Lib.hid (show w.heap.size ≠ g by have := H.out.blk.lt; omega)
        have HKP : ∀ {W : World} {i : Nat} {u : Value} {b : Nat}, b ≠ g → W.cell? ⟨b, 0, none⟩ = some (.int .i64 t) → (W.setCell ⟨g, i, none⟩ u).cell? ⟨b, 0, none⟩ = some (.int .i64 t) := fun hne hc => by
          rw [← hc]; unfold World.cell?; rw [Below.heap_setCell _ _ _ _ hne]
        have HT0 : Hid ((w8.alloc (.cells #[.int .i64 t, .int .i64 f, .slice A2 n c2] 31)).drew.cell? ⟨w.heap.size, 0, none⟩ = some (.int .i64 t)) := Lib.hid (by have := (HK8.out.below HBN.out HK8.out.lt).cell 0; simpa using this)
        refine wp_region_G (S0 := (fun W => W.cell? ⟨w.heap.size, 0, none⟩ = some (.int .i64 t))) (S1 := (fun W => W.cell? ⟨w.heap.size, 0, none⟩ = some (.int .i64 t))) (c := 99) (by kernel_rfl) ?_
        have hHeld := HT0.out
        have h01 := (fun (W : World) (h : (fun W => W.cell? ⟨w.heap.size, 0, none⟩ = some (.int .i64 t)) W) => h)
        refine wpG_takeB (i := 0) (oi := ⟨some 40, _, _, _, _, _⟩) (v := .pointer (some ⟨g, 0, none⟩)) rfl (by kernel_rfl) (by kernel_rfl) (by kernel_rfl) (by decide) (fun _ _ _ h => h) h01 rfl hHeld (Or.inl ⟨by rfl, ?_⟩) ?_
        · (intro W9 hSw; have v1 := hSw; go_simp; (try (first | with_reducible rfl | rfl | (simp; done))))
        try simp only [Act.put, List.setIfInBounds_toArray, List.set_cons_zero, List.set_cons_succ]
        refine wpG_takeB (i := 1) (oi := ⟨some 41, _, _, _, _, _⟩) (v := .pointer (some ⟨g, 0, none⟩)) rfl (by kernel_rfl) (by kernel_rfl) (by kernel_rfl) (by decide) (fun _ _ _ h => h) h01 rfl hHeld (Or.inl ⟨by rfl, ?_⟩) ?_
        · (intro W9 hSw; have v1 := hSw; go_simp; (try (first | with_reducible rfl | rfl | (simp; done))))
        try simp only [Act.put, List.setIfInBounds_toArray, List.set_cons_zero, List.set_cons_succ]
        refine wpG_takeB (i := 2) (oi := ⟨some 42, _, _, _, _, _⟩) (v := .slice (some ⟨w8.heap.size, 0, none⟩) 1 1) rfl (by kernel_rfl) (by kernel_rfl) (by kernel_rfl) (by decide) (fun _ _ _ h => h) h01 rfl hHeld (Or.inl ⟨by rfl, ?_⟩) ?_
        · (intro W9 hSw; have v1 := hSw; go_simp; (try (first | with_reducible rfl | rfl | (simp; done))))
        try simp only [Act.put, List.setIfInBounds_toArray, List.set_cons_zero, List.set_cons_succ]
        refine wpG_takeB (i := 3) (oi := ⟨some 43, _, _, _, _, _⟩) (v := .pointer (some ⟨w.heap.size, 0, none⟩)) rfl (by kernel_rfl) (by kernel_rfl) (by kernel_rfl) (by decide) (fun _ _ _ h => h) h01 rfl hHeld (Or.inl ⟨by rfl, ?_⟩) ?_
        · (intro W9 hSw; have v1 := hSw; go_simp; (try (first | with_reducible rfl | rfl | (simp; done))))
        try simp only [Act.put, List.setIfInBounds_toArray, List.set_cons_zero, List.set_cons_succ]
        refine wpG_takeB (i := 4) (oi := ⟨some 44, _, _, _, _, _⟩) (v := .int .i64 t) rfl (by kernel_rfl) (by kernel_rfl) (by kernel_rfl) (by decide) (fun _ _ _ h => h) h01 rfl hHeld (Or.inl ⟨by rfl, ?_⟩) ?_
        · (intro W9 hSw; have v1 := hSw; go_simp; (try (first | with_reducible rfl | rfl | (simp; done))))
        try simp only [Act.put, List.setIfInBounds_toArray, List.set_cons_zero, List.set_cons_succ]
        refine wpG_takeB (i := 5) (oi := ⟨some 45, _, _, _, _, _⟩) (v := .pointer (some ⟨g, 0, none⟩)) rfl (by kernel_rfl) (by kernel_rfl) (by kernel_rfl) (by decide) (fun _ _ _ h => h) h01 rfl hHeld (Or.inl ⟨by rfl, ?_⟩) ?_
        · (intro W9 hSw; have v1 := hSw; go_simp; (try (first | with_reducible rfl | rfl | (simp; done))))
        try simp only [Act.put, List.setIfInBounds_toArray, List.set_cons_zero, List.set_cons_succ]
        refine wpG_takeB (i := 6) (oi := ⟨some 46, _, _, _, _, _⟩) (v := .pointer (some ⟨g, 1, none⟩)) rfl (by kernel_rfl) (by kernel_rfl) (by kernel_rfl) (by decide) (fun _ _ _ h => h) h01 rfl hHeld (Or.inl ⟨by rfl, ?_⟩) ?_
        · (intro W9 hSw; have v1 := hSw; go_simp; (try (first | with_reducible rfl | rfl | (simp; done))))
        try simp only [Act.put, List.setIfInBounds_toArray, List.set_cons_zero, List.set_cons_succ]
        refine wpG_oneB (i := 7) (o := ⟨none, _, _, _, _, _⟩) (by kernel_rfl) rfl rfl (fun K hK => ?_)
        have kq := HBK.out.cell 1
        simp at kq
        have kz := HBK.out.frozen 1
        go_simp
        refine hK.out _ _ (HKP HGB.out hHeld) (fun hHeld => ?_)
        clear kq kz
        have HBK := Lib.hid (HBK.out.set_ 1 (.slice (some ⟨w8.heap.size, 0, none⟩) 1 1))
        clear hK K
        try simp only [Act.put, List.setIfInBounds_toArray, List.set_cons_zero, List.set_cons_succ]
        refine wpG_takeB (i := 8) (oi := ⟨some 47, _, _, _, _, _⟩) (v := .pointer (some ⟨g, 0, none⟩)) rfl (by kernel_rfl) (by kernel_rfl) (by kernel_rfl) (by decide) (fun _ _ _ h => h) h01 rfl hHeld (Or.inl ⟨by rfl, ?_⟩) ?_
        · (intro W9 hSw; have v1 := hSw; go_simp; (try (first | with_reducible rfl | rfl | (simp; done))))
        try simp only [Act.put, List.setIfInBounds_toArray, List.set_cons_zero, List.set_cons_succ]
        refine wpG_takeB (i := 9) (oi := ⟨some 48, _, _, _, _, _⟩) (v := .pointer (some ⟨g, 2, none⟩)) rfl (by kernel_rfl) (by kernel_rfl) (by kernel_rfl) (by decide) (fun _ _ _ h => h) h01 rfl hHeld (Or.inl ⟨by rfl, ?_⟩) ?_
        · (intro W9 hSw; have v1 := hSw; go_simp; (try (first | with_reducible rfl | rfl | (simp; done))))
        try simp only [Act.put, List.setIfInBounds_toArray, List.set_cons_zero, List.set_cons_succ]
        refine wpG_oneB (i := 10) (o := ⟨none, _, _, _, _, _⟩) (by kernel_rfl) rfl rfl (fun K hK => ?_)
        have kq := HBK.out.cell 2
        simp at kq
        have kz := HBK.out.frozen 2
        go_simp
        refine hK.out _ _ (HKP HGB.out hHeld) (fun hHeld => ?_)
        clear kq kz
        clear hK K
        try simp only [Act.put, List.setIfInBounds_toArray, List.set_cons_zero, List.set_cons_succ]
        refine wpG_done (by kernel_rfl) ?_ _
        clear hHeld h01 HT0 HBK
        go_wp2_with fail
        go_ret
        rw [HF.out]
        have h := H.out
        have hB8 : B ≤ w8.heap.size := HWS8.out.base
        have hpn : PO B (w8.alloc (.cells #[.int .i64 t, .int .i64 f, .slice A2 n c2] 31)) (.slice (some ⟨w8.heap.size, 0, none⟩) 1 1) [p2] := by
          refine ⟨?_, fun q hq => ?_, fun q hq => ?_⟩
          · have e : [p2].flatMap Pd.cells = [.int .i64 t, .int .i64 f, .slice A2 n c2] := by rw [← HP2.out]; rfl
            rw [e]
            exact own_base (own_lit1 w8 #[.int .i64 t, .int .i64 f, .slice A2 n c2] 31 3 rfl) hB8
          · rw [List.mem_singleton.1 hq]; exact own_base (own_alloc HD8.out) h.base
          · rw [List.mem_singleton.1 hq, ← HP2.out]; exact ⟨HP.out.t1, HP.out.t2, HP.out.f1, HP.out.f2⟩
        have hvb2 : ∀ j, vb2.ownBlock = some j → vb.ownBlock = some j ∨ w6.heap.size ≤ j := fun j hj => by
          rcases HHAT8.out with e | e
          · exact .inl (e ▸ hj)
          · exact .inr (e j hj)
        have hd6 : ∀ j, p2.data.ownBlock = some j → w.heap.size ≤ j ∧ j < w6.heap.size := fun j hj => ⟨(HD4.out.lt j hj).1, Nat.lt_of_lt_of_le (HD4.out.lt j hj).2 HB6.out.size⟩
        have hws := WS.put (v := .slice (some ⟨w8.heap.size, 0, none⟩) 1 1) (s2 := ⟨(closeP s).b, [⟨t, f, d⟩], t⟩) HWS9.out.blk HWS9.out.own hpn (by show [p2.pk] = _; rw [HPK2.out]) HWS9.out.base h.gB (fun q hq j hj e => by
          rw [List.mem_singleton.1 hq] at e
          have h1 := hd6 j e
          rcases hvb2 j hj with h2 | h2
          · have := own_lt h.own j h2
            omega
          · omega) (by have := addP_ok h.ok ⟨t, f, d⟩; rw [HF.out] at this; exact this)
        have hon : Only (WF g vb) w (((w8.alloc (.cells #[.int .i64 t, .int .i64 f, .slice A2 n c2] 31)).setCell ⟨g, 1, none⟩ (.slice (some ⟨w8.heap.size, 0, none⟩) 1 1)).setCell ⟨g, 2, none⟩ (.int .i64 t)) := Only.set (Only.set ((Only.after HBW.out HON8.out).below HBN.out) (fun _ => .inl rfl) 1 _) (fun _ => .inl rfl) 2 _
        refine ⟨rfl, vb2, _, _, WS.below hws (below_drew (Below.refl _ _)), ⟨hon.os, hon.tape, hon.output, hon.size, hon.block⟩, ?_, fun k hlt hk => ?_⟩
        · rcases HHAT8.out with e | e
          · exact .inl e
          · exact .inr fun j hj => Nat.le_trans HBW.out.size (e j hj)
        · have hw68 := HON8.out.size
          have hw6 := HBW.out.size
          rcases hk with (hk | hk) | hk | ⟨q, hq, hk⟩
          · exact .inl (.inl hk)
          · rcases hvb2 k hk with h2 | h2
            · exact .inl (.inr h2)
            · omega
          · simp [Value.ownBlock] at hk
            omega
          · rw [List.mem_singleton.1 hq] at hk
            have := (hd6 k hk).1
            omega
end Go.Proofs.Ytgbkoegmoelheaa

/- The walk of CaptureWrites. -/
import Derived.Test.YtgbkoegmoelheaaDb
import Derived.Test.YtgbkoegmoelheaaDf
import Derived.Deep.CutRange
namespace Go.Proofs.Ytgbkoegmoelheaa
open Go.RowKit
set_option linter.unusedVariables false
set_option linter.unusedSimpArgs false

/-- A box of a reference's writer does not lie in its rows. -/
theorem RS.box {W W' : World} {Ab : Option Addr} {nb cb : Nat} {Al : Option Addr} {nl cl : Nat} {ds : List Pd} {s : StP} {x : Nat} {Ax : Option Addr} {nx cx : Nat} {Ay : Option Addr} {ny cy : Nat} {z : Int} (h : RS W Ab nb cb Al nl cl ds s) (hx : Blk W x 48 #[.slice Ax nx cx, .slice Ay ny cy, .int .i64 z]) (ho : Only (fun k => k = x) W W') : RS W' Ab nb cb Al nl cl ds s := by
  have hb : ∀ {A : Option Addr} {n c : Nat} {l : List UInt8}, RB W A n c l → ∀ a, A = some a → 0 < n → ¬ a.block = x := fun hr a hA h0 e => RB.ne hr h0 hA hx (fun j y => by match j with | 0 => simp | 1 => simp | 2 => simp | _ + 3 => simp) e
  refine ⟨h.b.only ho (hb h.b), h.l.only ho ?_ (fun q hq => hb (h.l.r q hq).r), h.eq, h.ok⟩
  intro a hA h0 e
  have hl : 0 < ds.length := by rw [h.l.len]; exact h0
  obtain ⟨p1, p2, p3⟩ := pd_get ds 0 hl
  have g1 := h.l.h.2.2 a hA _ _ p1
  have g2 := h.l.h.2.2 a hA _ _ p2
  have hs : a.spot = none := by have := World.cell?_spot g1; simpa [Addr.add] using this
  obtain ⟨ab, ao, asp⟩ := a
  simp at hs
  subst hs
  simp only at e
  subst e
  rw [Addr.add_lit] at g1 g2
  simp only [Nat.zero_mul, Nat.add_zero, Nat.zero_add] at g1 g2
  match ao with
  | 0 =>
    have := hx.cell 0
    rw [g1] at this
    simp at this
  | 1 =>
    have := hx.cell 1
    rw [g1] at this
    simp at this
  | 2 =>
    have := hx.cell 3
    rw [g2] at this
    simp at this
  | k + 3 =>
    have := hx.cell (k + 3)
    rw [g1] at this
    simp at this

set_option maxRecDepth 100000 in
set_option maxHeartbeats 8000000 in
theorem writes_law (A : Option Addr) (n c : Nat) (acs : List Ac) (w : World) (h0 : AL w A n c acs ∧ n ≤ c ∧ c * 48 ≤ 140737488355328) :
    Calls Try.prog 5 #[.slice A n c] w fun e w' => e = .returned (.bool true) ∧ Below w.heap.size w w' := by
  have HAL := Lib.hid h0.1
  have hn0 : (n : Int) ≤ 140737488355328 := by have := h0.2; omega
  have K := Lib.hid known_any
  have C19 := short_any A n c acs 150 w h0.1 (by have := h0.2; omega) (by omega) (by omega)
  obtain ⟨F, hF⟩ : ∃ F, fewB 150 (pks (apk acs)) = F := ⟨_, rfl⟩
  rw [hF] at C19
  have HFW := Lib.hid hF
  have C19 := Lib.hid C19
  clear h0 hF
  cases F with
  | false =>
    go_enter Try.func5, Try.ntmps5
    go_wp2_with (first | (go_at_call 19; (with_reducible refine C19.out.mono ?_); rintro e w1 ⟨rfl, hb⟩; have HB := Lib.hid hb; clear hb) | (go_at_call 10; (with_reducible refine (K.out _).mono ?_); rintro e w2 ⟨rfl, hb⟩; have HB2 := Lib.hid (HB.out.trans (hb.mono HB.out.size)); clear hb))
    go_ret
    exact ⟨rfl, HB2.out⟩
  | true =>
  have hfw := few_of HFW.out HAL.out
  have HPN := Lib.hid hfw.2
  have hn1 : (n : Int) ≤ 150 := hfw.1
  clear hn0 hfw
  go_enter Try.func5, Try.ntmps5
  go_upto_region 3 with (go_at_call 19; (with_reducible refine C19.out.mono ?_); rintro e w1 ⟨rfl, hb⟩; have HB := Lib.hid hb; clear hb)
  go_wp2_with fail
  obtain ⟨w3, hw3⟩ : ∃ w3, (w1.alloc (.cells #[.slice none 0 0, .slice none 0 0, .int .i64 0] 46)).alloc (.cells #[.slice none 0 0, .slice none 0 0, .int .i64 0] 48) = w3 := ⟨_, rfl⟩
  have hb13 : Below w1.heap.size w1 w3 := hw3 ▸ ((Below.refl _ w1).alloc (Nat.le_refl _) _).alloc (by simp) _
  have kg : Blk w3 w1.heap.size 46 #[.slice none 0 0, .slice none 0 0, .int .i64 0] := hw3 ▸ (Blk.new w1 46 _).alloc _
  have kr : Blk w3 (w1.heap.size + 1) 48 #[.slice none 0 0, .slice none 0 0, .int .i64 0] := by have := Blk.new (w1.alloc (.cells #[.slice none 0 0, .slice none 0 0, .int .i64 0] 46)) 48 #[.slice none 0 0, .slice none 0 0, .int .i64 0]; rw [World.size_alloc, hw3] at this; exact this
  obtain ⟨g, hg⟩ : ∃ g, w1.heap.size = g := ⟨_, rfl⟩
  obtain ⟨r, hr⟩ : ∃ r, g + 1 = r := ⟨_, rfl⟩
  have HGR := Lib.hid (show w.heap.size ≤ g ∧ g + 1 = r from ⟨by rw [← hg]; exact HB.out.size, hr⟩)
  have HRW := Lib.hid (show w.heap.size ≤ r by have := HGR.out; omega)
  rw [hg] at kg kr hb13
  rw [hr] at kr
  have HLW := Lib.hid (show LW w g g r 0 (fun _ => False) ⟨[], [], 0⟩ (.slice none 0 0) (.slice none 0 0) [] none 0 0 none 0 0 [] w3 from ⟨WS.new kg (Nat.le_refl _), RS.new _, FP.new _, kr, HB.out.trans (hb13.mono HGR.out.1), by simp⟩)
  rw [hw3, hg, hr]
  clear hb13 kg kr hg hr hw3
  obtain ⟨B, hB⟩ : ∃ B, g = B := ⟨_, rfl⟩
  have HBG := Lib.hid hB
  have HBW := Lib.hid (show w.heap.size ≤ B by have := HGR.out.1; omega)
  have HLW : Hid (LW w B g r 0 (fun _ => False) ⟨[], [], 0⟩ (.slice none 0 0) (.slice none 0 0) [] none 0 0 none 0 0 [] w3) := hB ▸ HLW
  clear hB
  go_loopw [5] (fun ii wr => ∃ (i : Nat) (s : StP) (vb vl : Value) (dsw : List Pd) (Ab : Option Addr) (nb cb : Nat) (Al : Option Addr) (nl cl : Nat) (ds : List Pd), (i : Int) ≤ n ∧ ii = .int .i64 (i : Int) ∧ Hid (LW w B g r i (fun _ => False) s vb vl dsw Ab nb cb Al nl cl ds wr)) (fun ii _ => n - (intOf ii).toNat)
  case atStart => exact ⟨0, _, _, _, _, _, _, _, _, _, _, _, by omega, rfl, HLW⟩
  case round =>
  clear HLW
  obtain ⟨i, s, vb, vl, dsw, Ab, nb, cb, Al, nl, cl, ds, hi, rfl, HLW⟩ := hrel
  have hi0 : (0 : Int) ≤ i := by omega
  have HSB := Lib.hid (show s.b.length ≤ 1990000 by have := HLW.out.len; have h2 : i * 8206 ≤ 150 * 8206 := Nat.mul_le_mul_right _ (by omega); omega)
  have HWG := Lib.hid (show ∀ k, WF g vb k → w.heap.size ≤ k from fun k hk => Nat.le_trans HBW.out (HLW.out.ws.ge k (.inl hk)))
  by_cases hlt : (i : Int) < n
  case pos =>
    have hi1 : i < acs.length := by rw [HAL.out.len]; omega
    obtain ⟨b, o, rfl, hat⟩ := HAL.out.at (by omega)
    have HAT := Lib.hid (fun (W : World) (hb : Below w.heap.size w W) => (hat i hi1).below hb)
    have hrp := HAL.out.r _ (List.getElem_mem hi1)
    have hpn := HPN.out _ (List.getElem_mem hi1)
    clear hat
    generalize acs[i] = a at *
    have HPD := Lib.hid hrp
    have HPN1 := Lib.hid hpn
    obtain ⟨s2, hs2⟩ : ∃ s2, stepP s a = s2 := ⟨_, rfl⟩
    have HLEN := Lib.hid (show s2.b.length ≤ (i + 1) * 8206 by have := stepP_len HLW.out.ws.ok a; rw [hs2] at this; have := HLW.out.len; omega)
    obtain ⟨last, hlast⟩ : ∃ last, s.last = last := ⟨_, rfl⟩
    have C20 := Lib.hid (fun (W : World) (hws : WS W B g vb vl dsw s) (hrs : RS W Ab nb cb Al nl cl ds s) (hb : Below w.heap.size w W) => (show Calls Try.prog 20 #[.pointer (some ⟨g, 0, none⟩), .agg #[.slice Ab nb cb, .slice Al nl cl, .int .i64 last], .agg #[.bool a.cl, .int .i64 a.p.t, .int .i64 a.p.f, .slice a.p.A a.p.n a.p.c]] W (DoU W B g vb vl dsw (fun _ => False) s2) from hlast ▸ hs2 ▸ do_any a W B g vb vl dsw s (fun _ => False) Ab nb cb Al nl cl ds hws hrs HLW.out.fp (fun k h => h.elim) HSB.out (HPD.out.below hb) (fun ad hA h0 hk => by
      rcases hk with hk | hk
      · have h1 := HPD.out.r.lt h0 hA
        have h2 := HWG.out _ hk
        omega
      · exact hk) (by have := HPN1.out; omega)))
    unfold DoU at C20
    have HWSc := Lib.hid HLW.out.ws
    have HRSc := Lib.hid HLW.out.rs
    have HBc := Lib.hid HLW.out.bel
    have HKRc := Lib.hid (hlast ▸ HLW.out.blk)
    have HNR := Lib.hid (show ¬ WF g vb r from fun h => HLW.out.ws.notWK HLW.out.blk (by decide) (by decide) (by decide) (.inl h))
    clear hrp hpn hs2 hlast
    go_upto_region 8 with fail
    obtain ⟨wS, hwS⟩ : ∃ wS, wr = wS := ⟨_, rfl⟩
    have HSZc := Lib.hid (show wS.heap.size ≤ wr.drew.heap.size by rw [← hwS]; exact Nat.le_refl _)
    have hdr : Below wr.heap.size wr wr.drew := below_drew (Below.refl _ _)
    have HWSc := Lib.hid (HWSc.out.below hdr)
    have HRSc := Lib.hid (HRSc.out.below hdr)
    have HBc := Lib.hid (below_drew HBc.out)
    have HKRc := Lib.hid (HKRc.out.below hdr HKRc.out.lt)
    clear hdr hwS
    refine wp_region_G (S0 := (fun W => Blk W r 48 #[.slice Ab nb cb, .slice Al nl cl, .int .i64 last] ∧ Below w.heap.size w W)) (S1 := (fun W => Blk W r 48 #[.slice Ab nb cb, .slice Al nl cl, .int .i64 last] ∧ Below w.heap.size w W)) (c := 99) (by kernel_rfl) ?_
    have hHeld := (show (fun W => Blk W r 48 #[.slice Ab nb cb, .slice Al nl cl, .int .i64 last] ∧ Below w.heap.size w W) wr.drew from ⟨HKRc.out, HBc.out⟩)
    have h01 := (fun (W : World) (h : (fun W => Blk W r 48 #[.slice Ab nb cb, .slice Al nl cl, .int .i64 last] ∧ Below w.heap.size w W) W) => h)
    refine wpG_takeB (i := 0) (oi := ⟨some 21, _, _, _, _, _⟩) (v := .agg #[.slice Ab nb cb, .slice Al nl cl, .int .i64 last]) rfl (by kernel_rfl) (by kernel_rfl) (by kernel_rfl) (by decide) (fun _ _ _ h => h) h01 rfl hHeld (Or.inl ⟨by rfl, ?_⟩) ?_
    · (intro W9 hSw; obtain ⟨v1, v2⟩ := hSw; have c0 := v1.cell 0; have c1 := v1.cell 1; have c2 := v1.cell 2; simp at c0 c1 c2; obtain ⟨q0, q1, q2, q3⟩ := HAT.out _ v2; go_simp; (try (first | with_reducible rfl | rfl | (simp; done))))
    try simp only [Act.put, List.setIfInBounds_toArray, List.set_cons_zero, List.set_cons_succ]
    refine wpG_takeB (i := 1) (oi := ⟨some 22, _, _, _, _, _⟩) (v := .slice (some ⟨b, o, none⟩) n c) rfl (by kernel_rfl) (by kernel_rfl) (by kernel_rfl) (by decide) (fun _ _ _ h => h) h01 rfl hHeld (Or.inl ⟨by rfl, ?_⟩) ?_
    · (intro W9 hSw; obtain ⟨v1, v2⟩ := hSw; have c0 := v1.cell 0; have c1 := v1.cell 1; have c2 := v1.cell 2; simp at c0 c1 c2; obtain ⟨q0, q1, q2, q3⟩ := HAT.out _ v2; go_simp; (try (first | with_reducible rfl | rfl | (simp; done))))
    try simp only [Act.put, List.setIfInBounds_toArray, List.set_cons_zero, List.set_cons_succ]
    refine wpG_takeB (i := 2) (oi := ⟨some 23, _, _, _, _, _⟩) (v := .int .i64 (i : Int)) rfl (by kernel_rfl) (by kernel_rfl) (by kernel_rfl) (by decide) (fun _ _ _ h => h) h01 rfl hHeld (Or.inl ⟨by rfl, ?_⟩) ?_
    · (intro W9 hSw; obtain ⟨v1, v2⟩ := hSw; have c0 := v1.cell 0; have c1 := v1.cell 1; have c2 := v1.cell 2; simp at c0 c1 c2; obtain ⟨q0, q1, q2, q3⟩ := HAT.out _ v2; go_simp; (try (first | with_reducible rfl | rfl | (simp; done))))
    try simp only [Act.put, List.setIfInBounds_toArray, List.set_cons_zero, List.set_cons_succ]
    refine wpG_takeB (i := 3) (oi := ⟨some 24, _, _, _, _, _⟩) (v := .pointer (some ⟨b, o + i * 4, none⟩)) rfl (by kernel_rfl) (by kernel_rfl) (by kernel_rfl) (by decide) (fun _ _ _ h => h) h01 rfl hHeld (Or.inl ⟨by rfl, ?_⟩) ?_
    · (intro W9 hSw; obtain ⟨v1, v2⟩ := hSw; have c0 := v1.cell 0; have c1 := v1.cell 1; have c2 := v1.cell 2; simp at c0 c1 c2; obtain ⟨q0, q1, q2, q3⟩ := HAT.out _ v2; go_simp; (try (first | with_reducible rfl | rfl | (simp; done))))
    try simp only [Act.put, List.setIfInBounds_toArray, List.set_cons_zero, List.set_cons_succ]
    refine wpG_takeB (i := 4) (oi := ⟨some 25, _, _, _, _, _⟩) (v := .agg #[.bool a.cl, .int .i64 a.p.t, .int .i64 a.p.f, .slice a.p.A a.p.n a.p.c]) rfl (by kernel_rfl) (by kernel_rfl) (by kernel_rfl) (by decide) (fun _ _ _ h => h) h01 rfl hHeld (Or.inl ⟨by rfl, ?_⟩) ?_
    · (intro W9 hSw; obtain ⟨v1, v2⟩ := hSw; have c0 := v1.cell 0; have c1 := v1.cell 1; have c2 := v1.cell 2; simp at c0 c1 c2; obtain ⟨q0, q1, q2, q3⟩ := HAT.out _ v2; go_simp; (try (first | with_reducible rfl | rfl | (simp; done))))
    try simp only [Act.put, List.setIfInBounds_toArray, List.set_cons_zero, List.set_cons_succ]
    refine wpG_twoB (i := 5) (j := 9) (oi := ⟨some 26, _, _, _, _, _⟩) (oj := ⟨some 6, _, _, _, _, _⟩) (by kernel_rfl) rfl rfl rfl rfl (fun K hK => ?_) (fun K hK => ?_)
    · go_simp
      (with_reducible refine (C20.out _ HWSc.out HRSc.out HBc.out).mono ?_); rintro e w20 ⟨vb2, vl2, dsw2, Ab2, nb2, cb2, Al2, nl2, cl2, ds2, rfl, hws, hrs, hfp, hon, hat, hwk⟩
      have HKRc := Lib.hid (HKRc.out.only hon HNR.out)
      (try have HXBc := Lib.hid (HXBc.out.only hon HXNc.out))
      have HBc := Lib.hid (HBc.out.trans (hon.to_below HBc.out.size fun k hk h => by have := HWG.out k h; omega))
      have HWSc := Lib.hid hws
      have HRSc := Lib.hid hrs
      have HFc := Lib.hid hfp
      have HWKc := Lib.hid (show ∀ k, k < wS.heap.size → WK g vb2 vl2 dsw2 k → WK g vb vl dsw k from fun k hk => hwk k (by have := HSZc.out; omega))
      have HSZc := Lib.hid (Nat.le_trans HSZc.out hon.size)
      clear hws hrs hfp hon hat hwk
      refine hK.out _ _ ⟨HKRc.out, HBc.out⟩ (fun hHeld => ?_)
      clear hK K
      try simp only [Act.put, List.setIfInBounds_toArray, List.set_cons_zero, List.set_cons_succ]
      refine wpG_takeB (i := 6) (oi := ⟨some 20, _, _, _, _, _⟩) (v := .tuple #[.agg #[.slice Ab2 nb2 cb2, .slice Al2 nl2 cl2, .int .i64 s2.last], .bool true]) rfl (by kernel_rfl) (by kernel_rfl) (by kernel_rfl) (by decide) (fun _ _ _ h => h) h01 rfl hHeld (Or.inl ⟨by rfl, ?_⟩) ?_
      · (intro W9 hSw; obtain ⟨v1, v2⟩ := hSw; have c0 := v1.cell 0; have c1 := v1.cell 1; have c2 := v1.cell 2; simp at c0 c1 c2; obtain ⟨q0, q1, q2, q3⟩ := HAT.out _ v2; go_simp; (try (first | with_reducible rfl | rfl | (simp; done))))
      try simp only [Act.put, List.setIfInBounds_toArray, List.set_cons_zero, List.set_cons_succ]
      refine wpG_takeB (i := 7) (oi := ⟨some 27, _, _, _, _, _⟩) (v := .agg #[.slice Ab2 nb2 cb2, .slice Al2 nl2 cl2, .int .i64 s2.last]) rfl (by kernel_rfl) (by kernel_rfl) (by kernel_rfl) (by decide) (fun _ _ _ h => h) h01 rfl hHeld (Or.inl ⟨by rfl, ?_⟩) ?_
      · (intro W9 hSw; obtain ⟨v1, v2⟩ := hSw; have c0 := v1.cell 0; have c1 := v1.cell 1; have c2 := v1.cell 2; simp at c0 c1 c2; obtain ⟨q0, q1, q2, q3⟩ := HAT.out _ v2; go_simp; (try (first | with_reducible rfl | rfl | (simp; done))))
      try simp only [Act.put, List.setIfInBounds_toArray, List.set_cons_zero, List.set_cons_succ]
      refine wpG_takeB (i := 8) (oi := ⟨some 28, _, _, _, _, _⟩) (v := .bool true) rfl (by kernel_rfl) (by kernel_rfl) (by kernel_rfl) (by decide) (fun _ _ _ h => h) h01 rfl hHeld (Or.inl ⟨by rfl, ?_⟩) ?_
      · (intro W9 hSw; obtain ⟨v1, v2⟩ := hSw; have c0 := v1.cell 0; have c1 := v1.cell 1; have c2 := v1.cell 2; simp at c0 c1 c2; obtain ⟨q0, q1, q2, q3⟩ := HAT.out _ v2; go_simp; (try (first | with_reducible rfl | rfl | (simp; done))))
      try simp only [Act.put, List.setIfInBounds_toArray, List.set_cons_zero, List.set_cons_succ]
      refine wpG_oneB (i := 9) (o := ⟨some 6, _, _, _, _, _⟩) (by kernel_rfl) rfl rfl (fun K hK => ?_)
      go_simp
      have hbn : Below w20.heap.size w20 (w20.alloc (.cells #[.slice none 0 0, .slice none 0 0, .int .i64 0] 48)) := (Below.refl w20.heap.size w20).alloc (Nat.le_refl _) (.cells #[.slice none 0 0, .slice none 0 0, .int .i64 0] 48)
      have HXBc : Hid (Blk (w20.alloc (.cells #[.slice none 0 0, .slice none 0 0, .int .i64 0] 48)) w20.heap.size 48 #[.slice none 0 0, .slice none 0 0, .int .i64 0]) := Lib.hid (Blk.new w20 48 _)
      (try have HXNc := Lib.hid (show ¬ WF g vb w20.heap.size from fun h => absurd (HWSc.out.lt _ (.inl (.inl h))) (Nat.lt_irrefl _)))
      (try have HXNc := Lib.hid (show ¬ WF g vb w20.heap.size from fun h => absurd (HWSc.out.lt _ (.inl h)) (Nat.lt_irrefl _)))
      have HXWc := Lib.hid (show w.heap.size ≤ w20.heap.size from HBc.out.size)
      have HXRc := Lib.hid (show r < w20.heap.size from HKRc.out.lt)
      have HXKc := Lib.hid (show wS.heap.size ≤ w20.heap.size from HSZc.out)
      have HKRp := HKRc
      have HBp := HBc
      have HWSp := HWSc
      have HRSp := HRSc
      have HKRc := Lib.hid (HKRc.out.below hbn HKRc.out.lt)
      have HBc := Lib.hid (HBc.out.trans (hbn.mono HBc.out.size))
      have HWSc := Lib.hid (HWSc.out.below hbn)
      have HRSc := Lib.hid (HRSc.out.below hbn)
      have HSZc := Lib.hid (Nat.le_trans HSZc.out hbn.size)
      clear hbn
      refine hK.out _ _ ⟨HKRc.out, HBc.out⟩ (fun hHeld => ?_)
      clear hK K
      try simp only [Act.put, List.setIfInBounds_toArray, List.set_cons_zero, List.set_cons_succ]
      refine wpG_oneB (i := 10) (o := ⟨none, _, _, _, _, _⟩) (by kernel_rfl) rfl rfl (fun K hK => ?_)
      have z0 := HXBc.out.cell 0
      have z1 := HXBc.out.cell 1
      have z2 := HXBc.out.cell 2
      simp at z0 z1 z2
      have f0 := HXBc.out.frozen 0
      have f1 := HXBc.out.frozen 1
      have f2 := HXBc.out.frozen 2
      go_simp
      clear z0 z1 z2 f0 f1 f2
      first | (obtain ⟨hz9, ho9⟩ := st3 (x := .slice Ab2 nb2 cb2) (y := .slice Al2 nl2 cl2) (z := .int .i64 s2.last) HXBc.out; obtain ⟨w30, hw30⟩ : ∃ w30, ((w20.setCell ⟨wr.heap.size, 0, none⟩ (.slice Ab2 nb2 cb2)).setCell ⟨wr.heap.size, 1, none⟩ (.slice Al2 nl2 cl2)).setCell ⟨wr.heap.size, 2, none⟩ (.int .i64 s2.last) = w30 := ⟨_, rfl⟩; rw [hw30] at hz9 ho9 ⊢; have HNWc := Lib.hid (HWSc.out.notWK HXBc.out (by decide) (by decide) (by decide)); have HKRc := Lib.hid (HKRc.out.only ho9 (by have := HXRc.out; omega)); have HRSc := Lib.hid (RS.box HRSc.out HXBc.out ho9); have HBc := Lib.hid (HBc.out.trans (ho9.to_below HBc.out.size fun k hk e => by have := HXWc.out; omega)); have HWSc := Lib.hid (HWSc.out.only ho9 fun k hk e => HNWc.out (e ▸ hk)); have HXBc := Lib.hid hz9; clear hz9 ho9 hw30 HNWc; refine hK.out _ _ ⟨HKRc.out, HBc.out⟩ (fun hHeld => ?_)) | (obtain ⟨w30, hw30⟩ : ∃ w30, w20.alloc (.cells #[.slice Ab2 nb2 cb2, .slice Al2 nl2 cl2, .int .i64 s2.last] 48) = w30 := ⟨_, rfl⟩; rw [hw30]; have hb30 : Below w20.heap.size w20 w30 := hw30 ▸ (Below.refl _ w20).alloc (Nat.le_refl _) _; have HXBc := Lib.hid (show Blk w30 w20.heap.size 48 #[.slice Ab2 nb2 cb2, .slice Al2 nl2 cl2, .int .i64 s2.last] from hw30 ▸ Blk.new w20 48 _); have HKRc := Lib.hid (HKRp.out.below hb30 HKRp.out.lt); have HRSc := Lib.hid (HRSp.out.below hb30); have HBc := Lib.hid (HBp.out.trans (hb30.mono HBp.out.size)); have HWSc := Lib.hid (HWSp.out.below hb30); clear hb30 hw30; refine hK.out _ _ ⟨HKRc.out, HBc.out⟩ (fun hHeld => ?_))
      clear hK K
      try simp only [Act.put, List.setIfInBounds_toArray, List.set_cons_zero, List.set_cons_succ]
      refine wpG_takeB (i := 11) (oi := ⟨some 7, _, _, _, _, _⟩) (v := .bool true) rfl (by kernel_rfl) (by kernel_rfl) (by kernel_rfl) (by decide) (fun _ _ _ h => h) h01 rfl hHeld (Or.inl ⟨by rfl, ?_⟩) ?_
      · (intro W9 hSw; obtain ⟨v1, v2⟩ := hSw; have c0 := v1.cell 0; have c1 := v1.cell 1; have c2 := v1.cell 2; simp at c0 c1 c2; obtain ⟨q0, q1, q2, q3⟩ := HAT.out _ v2; go_simp; (try (first | with_reducible rfl | rfl | (simp; done))))
      try simp only [Act.put, List.setIfInBounds_toArray, List.set_cons_zero, List.set_cons_succ]
      refine wpG_done (by kernel_rfl) ?_ _
      have k0 := HXBc.out.cell 0
      have k1 := HXBc.out.cell 1
      have k2 := HXBc.out.cell 2
      simp at k0 k1 k2
      have z0 := HKRc.out.cell 0
      have z1 := HKRc.out.cell 1
      have z2 := HKRc.out.cell 2
      simp at z0 z1 z2
      have f0 := HKRc.out.frozen 0
      have f1 := HKRc.out.frozen 1
      have f2 := HKRc.out.frozen 2
      go_wp2_with fail
      obtain ⟨hz9, ho9⟩ := st3 (x := .slice Ab2 nb2 cb2) (y := .slice Al2 nl2 cl2) (z := .int .i64 s2.last) HKRc.out
      have HNWc := Lib.hid (HWSc.out.notWK HKRc.out (by decide) (by decide) (by decide))
      have HLW := Lib.hid (show LW w B g r (i + 1) (fun _ => False) s2 vb2 vl2 dsw2 Ab2 nb2 cb2 Al2 nl2 cl2 ds2 _ from ⟨HWSc.out.only ho9 fun k hk e => HNWc.out (e ▸ hk), RS.box HRSc.out HKRc.out ho9, HFc.out, hz9, HBc.out.trans (ho9.to_below HBc.out.size fun k hk e => by have := HRW.out; omega), HLEN.out⟩)
      clear hz9 ho9 z0 z1 z2 f0 f1 f2 k0 k1 k2
      go_roundw
      case rel => exact ⟨i + 1, s2, vb2, vl2, dsw2, Ab2, nb2, cb2, Al2, nl2, cl2, ds2, by omega, by go_num, HLW⟩
      case measure => simp [intOf]; omega
    · go_simp
      have hbn : Below (wr.drew).heap.size (wr.drew) ((wr.alloc (.cells #[.slice none 0 0, .slice none 0 0, .int .i64 0] 48)).drew) := (Below.refl (wr.drew).heap.size (wr.drew)).alloc (Nat.le_refl _) (.cells #[.slice none 0 0, .slice none 0 0, .int .i64 0] 48)
      have HXBc : Hid (Blk ((wr.alloc (.cells #[.slice none 0 0, .slice none 0 0, .int .i64 0] 48)).drew) wr.heap.size 48 #[.slice none 0 0, .slice none 0 0, .int .i64 0]) := Lib.hid (Blk.new (wr.drew) 48 _)
      (try have HXNc := Lib.hid (show ¬ WF g vb wr.heap.size from fun h => absurd (HWSc.out.lt _ (.inl (.inl h))) (Nat.lt_irrefl _)))
      (try have HXNc := Lib.hid (show ¬ WF g vb wr.heap.size from fun h => absurd (HWSc.out.lt _ (.inl h)) (Nat.lt_irrefl _)))
      have HXWc := Lib.hid (show w.heap.size ≤ wr.heap.size from HBc.out.size)
      have HXRc := Lib.hid (show r < wr.heap.size from HKRc.out.lt)
      have HXKc := Lib.hid (show wS.heap.size ≤ wr.heap.size from HSZc.out)
      have HKRp := HKRc
      have HBp := HBc
      have HWSp := HWSc
      have HRSp := HRSc
      have HKRc := Lib.hid (HKRc.out.below hbn HKRc.out.lt)
      have HBc := Lib.hid (HBc.out.trans (hbn.mono HBc.out.size))
      have HWSc := Lib.hid (HWSc.out.below hbn)
      have HRSc := Lib.hid (HRSc.out.below hbn)
      have HSZc := Lib.hid (Nat.le_trans HSZc.out hbn.size)
      clear hbn
      refine hK.out _ _ ⟨HKRc.out, HBc.out⟩ (fun hHeld => ?_)
      clear hK K
      try simp only [Act.put, List.setIfInBounds_toArray, List.set_cons_zero, List.set_cons_succ]
      refine wpG_oneB (i := 5) (o := ⟨some 26, _, _, _, _, _⟩) (by kernel_rfl) rfl rfl (fun K hK => ?_)
      go_simp
      (with_reducible refine (C20.out _ HWSc.out HRSc.out HBc.out).mono ?_); rintro e w20 ⟨vb2, vl2, dsw2, Ab2, nb2, cb2, Al2, nl2, cl2, ds2, rfl, hws, hrs, hfp, hon, hat, hwk⟩
      have HKRc := Lib.hid (HKRc.out.only hon HNR.out)
      (try have HXBc := Lib.hid (HXBc.out.only hon HXNc.out))
      have HBc := Lib.hid (HBc.out.trans (hon.to_below HBc.out.size fun k hk h => by have := HWG.out k h; omega))
      have HWSc := Lib.hid hws
      have HRSc := Lib.hid hrs
      have HFc := Lib.hid hfp
      have HWKc := Lib.hid (show ∀ k, k < wS.heap.size → WK g vb2 vl2 dsw2 k → WK g vb vl dsw k from fun k hk => hwk k (by have := HSZc.out; omega))
      have HSZc := Lib.hid (Nat.le_trans HSZc.out hon.size)
      clear hws hrs hfp hon hat hwk
      refine hK.out _ _ ⟨HKRc.out, HBc.out⟩ (fun hHeld => ?_)
      clear hK K
      try simp only [Act.put, List.setIfInBounds_toArray, List.set_cons_zero, List.set_cons_succ]
      refine wpG_takeB (i := 6) (oi := ⟨some 20, _, _, _, _, _⟩) (v := .tuple #[.agg #[.slice Ab2 nb2 cb2, .slice Al2 nl2 cl2, .int .i64 s2.last], .bool true]) rfl (by kernel_rfl) (by kernel_rfl) (by kernel_rfl) (by decide) (fun _ _ _ h => h) h01 rfl hHeld (Or.inl ⟨by rfl, ?_⟩) ?_
      · (intro W9 hSw; obtain ⟨v1, v2⟩ := hSw; have c0 := v1.cell 0; have c1 := v1.cell 1; have c2 := v1.cell 2; simp at c0 c1 c2; obtain ⟨q0, q1, q2, q3⟩ := HAT.out _ v2; go_simp; (try (first | with_reducible rfl | rfl | (simp; done))))
      try simp only [Act.put, List.setIfInBounds_toArray, List.set_cons_zero, List.set_cons_succ]
      refine wpG_takeB (i := 7) (oi := ⟨some 27, _, _, _, _, _⟩) (v := .agg #[.slice Ab2 nb2 cb2, .slice Al2 nl2 cl2, .int .i64 s2.last]) rfl (by kernel_rfl) (by kernel_rfl) (by kernel_rfl) (by decide) (fun _ _ _ h => h) h01 rfl hHeld (Or.inl ⟨by rfl, ?_⟩) ?_
      · (intro W9 hSw; obtain ⟨v1, v2⟩ := hSw; have c0 := v1.cell 0; have c1 := v1.cell 1; have c2 := v1.cell 2; simp at c0 c1 c2; obtain ⟨q0, q1, q2, q3⟩ := HAT.out _ v2; go_simp; (try (first | with_reducible rfl | rfl | (simp; done))))
      try simp only [Act.put, List.setIfInBounds_toArray, List.set_cons_zero, List.set_cons_succ]
      refine wpG_takeB (i := 8) (oi := ⟨some 28, _, _, _, _, _⟩) (v := .bool true) rfl (by kernel_rfl) (by kernel_rfl) (by kernel_rfl) (by decide) (fun _ _ _ h => h) h01 rfl hHeld (Or.inl ⟨by rfl, ?_⟩) ?_
      · (intro W9 hSw; obtain ⟨v1, v2⟩ := hSw; have c0 := v1.cell 0; have c1 := v1.cell 1; have c2 := v1.cell 2; simp at c0 c1 c2; obtain ⟨q0, q1, q2, q3⟩ := HAT.out _ v2; go_simp; (try (first | with_reducible rfl | rfl | (simp; done))))
      try simp only [Act.put, List.setIfInBounds_toArray, List.set_cons_zero, List.set_cons_succ]
      refine wpG_oneB (i := 10) (o := ⟨none, _, _, _, _, _⟩) (by kernel_rfl) rfl rfl (fun K hK => ?_)
      have z0 := HXBc.out.cell 0
      have z1 := HXBc.out.cell 1
      have z2 := HXBc.out.cell 2
      simp at z0 z1 z2
      have f0 := HXBc.out.frozen 0
      have f1 := HXBc.out.frozen 1
      have f2 := HXBc.out.frozen 2
      go_simp
      clear z0 z1 z2 f0 f1 f2
      first | (obtain ⟨hz9, ho9⟩ := st3 (x := .slice Ab2 nb2 cb2) (y := .slice Al2 nl2 cl2) (z := .int .i64 s2.last) HXBc.out; obtain ⟨w30, hw30⟩ : ∃ w30, ((w20.setCell ⟨wr.heap.size, 0, none⟩ (.slice Ab2 nb2 cb2)).setCell ⟨wr.heap.size, 1, none⟩ (.slice Al2 nl2 cl2)).setCell ⟨wr.heap.size, 2, none⟩ (.int .i64 s2.last) = w30 := ⟨_, rfl⟩; rw [hw30] at hz9 ho9 ⊢; have HNWc := Lib.hid (HWSc.out.notWK HXBc.out (by decide) (by decide) (by decide)); have HKRc := Lib.hid (HKRc.out.only ho9 (by have := HXRc.out; omega)); have HRSc := Lib.hid (RS.box HRSc.out HXBc.out ho9); have HBc := Lib.hid (HBc.out.trans (ho9.to_below HBc.out.size fun k hk e => by have := HXWc.out; omega)); have HWSc := Lib.hid (HWSc.out.only ho9 fun k hk e => HNWc.out (e ▸ hk)); have HXBc := Lib.hid hz9; clear hz9 ho9 hw30 HNWc; refine hK.out _ _ ⟨HKRc.out, HBc.out⟩ (fun hHeld => ?_)) | (obtain ⟨w30, hw30⟩ : ∃ w30, w20.alloc (.cells #[.slice Ab2 nb2 cb2, .slice Al2 nl2 cl2, .int .i64 s2.last] 48) = w30 := ⟨_, rfl⟩; rw [hw30]; have hb30 : Below w20.heap.size w20 w30 := hw30 ▸ (Below.refl _ w20).alloc (Nat.le_refl _) _; have HXBc := Lib.hid (show Blk w30 w20.heap.size 48 #[.slice Ab2 nb2 cb2, .slice Al2 nl2 cl2, .int .i64 s2.last] from hw30 ▸ Blk.new w20 48 _); have HKRc := Lib.hid (HKRp.out.below hb30 HKRp.out.lt); have HRSc := Lib.hid (HRSp.out.below hb30); have HBc := Lib.hid (HBp.out.trans (hb30.mono HBp.out.size)); have HWSc := Lib.hid (HWSp.out.below hb30); clear hb30 hw30; refine hK.out _ _ ⟨HKRc.out, HBc.out⟩ (fun hHeld => ?_))
      clear hK K
      try simp only [Act.put, List.setIfInBounds_toArray, List.set_cons_zero, List.set_cons_succ]
      refine wpG_takeB (i := 11) (oi := ⟨some 7, _, _, _, _, _⟩) (v := .bool true) rfl (by kernel_rfl) (by kernel_rfl) (by kernel_rfl) (by decide) (fun _ _ _ h => h) h01 rfl hHeld (Or.inl ⟨by rfl, ?_⟩) ?_
      · (intro W9 hSw; obtain ⟨v1, v2⟩ := hSw; have c0 := v1.cell 0; have c1 := v1.cell 1; have c2 := v1.cell 2; simp at c0 c1 c2; obtain ⟨q0, q1, q2, q3⟩ := HAT.out _ v2; go_simp; (try (first | with_reducible rfl | rfl | (simp; done))))
      try simp only [Act.put, List.setIfInBounds_toArray, List.set_cons_zero, List.set_cons_succ]
      refine wpG_done (by kernel_rfl) ?_ _
      have k0 := HXBc.out.cell 0
      have k1 := HXBc.out.cell 1
      have k2 := HXBc.out.cell 2
      simp at k0 k1 k2
      have z0 := HKRc.out.cell 0
      have z1 := HKRc.out.cell 1
      have z2 := HKRc.out.cell 2
      simp at z0 z1 z2
      have f0 := HKRc.out.frozen 0
      have f1 := HKRc.out.frozen 1
      have f2 := HKRc.out.frozen 2
      go_wp2_with fail
      obtain ⟨hz9, ho9⟩ := st3 (x := .slice Ab2 nb2 cb2) (y := .slice Al2 nl2 cl2) (z := .int .i64 s2.last) HKRc.out
      have HNWc := Lib.hid (HWSc.out.notWK HKRc.out (by decide) (by decide) (by decide))
      have HLW := Lib.hid (show LW w B g r (i + 1) (fun _ => False) s2 vb2 vl2 dsw2 Ab2 nb2 cb2 Al2 nl2 cl2 ds2 _ from ⟨HWSc.out.only ho9 fun k hk e => HNWc.out (e ▸ hk), RS.box HRSc.out HKRc.out ho9, HFc.out, hz9, HBc.out.trans (ho9.to_below HBc.out.size fun k hk e => by have := HRW.out; omega), HLEN.out⟩)
      clear hz9 ho9 z0 z1 z2 f0 f1 f2 k0 k1 k2
      go_roundw
      case rel => exact ⟨i + 1, s2, vb2, vl2, dsw2, Ab2, nb2, cb2, Al2, nl2, cl2, ds2, by omega, by go_num, HLW⟩
      case measure => simp [intOf]; omega
  case neg =>
  obtain ⟨w4, rfl⟩ : ∃ w4 : World, w4 = wr := ⟨_, rfl⟩
  obtain ⟨last, hlast⟩ : ∃ last, s.last = last := ⟨_, rfl⟩
  have C20 := do_any ⟨true, ⟨0, 0, none, 0, 0, []⟩⟩ w4 B g vb vl dsw s (fun _ => False) Ab nb cb Al nl cl ds HLW.out.ws HLW.out.rs HLW.out.fp (fun k h => h.elim) HSB.out ⟨by show (-9223372036854775808 : Int) ≤ 0; decide, by show (0 : Int) < _; decide, by show (-9223372036854775808 : Int) ≤ 0; decide, by show (0 : Int) < _; decide, RB.nil _⟩ (fun ad hA => by cases hA) (by show 0 ≤ 30000; omega)
  unfold DoU at C20
  obtain ⟨s2, hs2⟩ : ∃ s2, stepP s ⟨true, ⟨0, 0, none, 0, 0, []⟩⟩ = s2 := ⟨_, rfl⟩
  rw [hs2, hlast] at C20
  have C20 := Lib.hid (show Calls Try.prog 20 #[.pointer (some ⟨g, 0, none⟩), .agg #[.slice Ab nb cb, .slice Al nl cl, .int .i64 last], .agg #[.bool true, .int .i64 0, .int .i64 0, .slice none 0 0]] w4 _ from C20)
  have HB4 := Lib.hid HLW.out.bel
  have hkr := HLW.out.blk
  rw [hlast] at hkr
  have k0 := hkr.cell 0
  have k1 := hkr.cell 1
  have k2 := hkr.cell 2
  simp at k0 k1 k2
  clear hkr hs2 hlast
  go_wp2_with (first | (go_at_call 20; (with_reducible refine C20.out.mono ?_); rintro e w5 ⟨vb2, vl2, dsw2, Ab2, nb2, cb2, Al2, nl2, cl2, ds2, rfl, hws, hrs, hfp, hon, hat, hwk⟩; have HB5 := Lib.hid (HB4.out.trans (hon.to_below HB4.out.size fun k hk h => by have := HWG.out k h; omega)); clear hws hrs hfp hon hat hwk k0 k1 k2) | (go_at_call 10; (with_reducible refine (K.out _).mono ?_); rintro e w6 ⟨rfl, b6⟩; have HB6 := Lib.hid b6; clear b6))
  go_ret
  have hb7 := HB5.out.alloc HB5.out.size (.cells #[.slice Ab2 nb2 cb2, .slice Al2 nl2 cl2, .int .i64 s2.last] 48)
  exact ⟨rfl, hb7.trans (HB6.out.mono hb7.size)⟩
end Go.Proofs.Ytgbkoegmoelheaa

/- The steps of the scanner: put, wait. -/
import Derived.Test.YtkalllenggmgoaaDoorFj
namespace Go.Proofs.YtkalllenggmgoaaDoor
open Go.RowKit
set_option linter.unusedVariables false
set_option linter.unusedSimpArgs false

variable {B g : Nat} {W W2 : World} {s s' : Sc} {q q' : ScV} {v2 : Value} {x : Int} {ys : List UInt8} {o : Obj}
theorem ScW.store (hB : B ≤ W.heap.size) (hb : Blk W g 70 (scCells s q)) (i : Nat) (u : Value) (he : (scCells s q).setIfInBounds i u = scCells s' q') (hr : Rows B W (tri q'.nv q'.tv q'.gv) (tri s'.ln.name s'.ln.text s'.ln.gap) q'.dv q'.ds) (hk : q'.ds.map Ld.key = s'.done.map Ln.key) : ScW B (W.setCell ⟨g, i, none⟩ u) g s' q' :=
  ⟨by simpa using hB, he ▸ hb.set_ i u, hr.set hb i u, hk⟩
theorem ScW.forms (h : ScW B W g s q) : (∃ A c, q.nv = .slice A s.ln.name.length c) ∧ (∃ A c, q.tv = .slice A s.ln.text.length c) ∧ (∃ A c, q.gv = .slice A s.ln.gap.length c) ∧ ∃ A c, q.dv = .slice A s.done.length c := by
  obtain ⟨A0, c0, e0, -⟩ := own_form (h.rows.cur 0 (by decide))
  obtain ⟨A1, c1, e1, -⟩ := own_form (h.rows.cur 1 (by decide))
  obtain ⟨A2, c2, e2, -⟩ := own_form (h.rows.cur 2 (by decide))
  obtain ⟨A3, c3, e3, -⟩ := own_formS h.rows.dn
  rw [h.ds_len] at e3
  exact ⟨⟨A0, c0, e0⟩, ⟨A1, c1, e1⟩, ⟨A2, c2, e2⟩, A3, c3, e3⟩
theorem ScW.size (h : ScW B W g s q) : B ≤ W.heap.size := h.hB
theorem Only.app {W W2 : World} {v : Value} (hg : (W.alloc o).grownBy W2 v.ownBlock) : Only (fun k => v.ownBlock = some k) W W2 :=
  Only.after ((Below.refl W.heap.size W).alloc (Nat.le_refl _) o) ((Only.refl (fun b => v.ownBlock = some b) (W.alloc o)).grown hg fun g he hb => he)
theorem Only.app0 {W W2 : World} {v : Value} (hg : W.grownBy W2 v.ownBlock) : Only (fun k => v.ownBlock = some k) W W2 :=
  (Only.refl (fun b => v.ownBlock = some b) W).grown hg fun g he hb => he
theorem ScW.keepBlk (h : ScW B W g s q) {v : Value} (hv : ∀ k, v.ownBlock = some k → k ≠ g) (ho : Only (fun k => v.ownBlock = some k) W W2) : Blk W2 g 70 (scCells s q) := h.blk.only ho fun e => hv g e rfl
theorem only_below (hW : B ≤ W.heap.size) {v : Value} (hv : ∀ k, v.ownBlock = some k → B ≤ k) (ho : Only (fun k => v.ownBlock = some k) W W2) : Fp B g W W2 := Only.mono ho fun b _ e => .inr (hv b e)
theorem ScW.appName (h : ScW B W g s q) (hown : W2.ownsRow B 5 1 v2 (s.ln.name.length + ys.length) (s.ln.name.map u8 ++ ys.map u8)) (ho : Only (fun k => q.nv.ownBlock = some k) W W2) (hat : Hat q.nv v2 W) :
    Blk W2 g 70 (scCells s q) ∧ ScX B g { s with ln := { s.ln with name := s.ln.name ++ ys } } W (W2.setCell ⟨g, 1, none⟩ v2) := by
  have hne := (h.rows.ne h.blk).1 0 (by decide)
  have hlt := fun k hk => ((h.rows.cur 0 (by decide)).lt k hk).1
  have hb : Blk W2 g 70 (scCells s q) := h.keepBlk hne ho
  have hw : W2.ownsRow B 5 1 v2 (s.ln.name ++ ys).length ((s.ln.name ++ ys).map u8) := by rw [List.length_append, List.map_append]; exact hown
  refine ⟨hb, ⟨{ q with nv := v2 }, ScW.store (Nat.le_trans h.size ho.size) hb 1 v2 (by simp [scCells]) (h.rows.up0 hat ho hw) h.keys⟩, (only_below h.size hlt ho).trans (below_set h.hB (Nat.le_trans h.size ho.size) _ _)⟩
theorem ScW.appText (h : ScW B W g s q) (hown : W2.ownsRow B 5 1 v2 (s.ln.text.length + ys.length) (s.ln.text.map u8 ++ ys.map u8)) (ho : Only (fun k => q.tv.ownBlock = some k) W W2) (hat : Hat q.tv v2 W) :
    Blk W2 g 70 (scCells s q) ∧ ScX B g { s with ln := { s.ln with text := s.ln.text ++ ys } } W (W2.setCell ⟨g, 2, none⟩ v2) := by
  have hne := (h.rows.ne h.blk).1 1 (by decide)
  have hlt := fun k hk => ((h.rows.cur 1 (by decide)).lt k hk).1
  have hb : Blk W2 g 70 (scCells s q) := h.keepBlk hne ho
  have hw : W2.ownsRow B 5 1 v2 (s.ln.text ++ ys).length ((s.ln.text ++ ys).map u8) := by rw [List.length_append, List.map_append]; exact hown
  refine ⟨hb, ⟨{ q with tv := v2 }, ScW.store (Nat.le_trans h.size ho.size) hb 2 v2 (by simp [scCells]) (h.rows.up1 hat ho hw) h.keys⟩, (only_below h.size hlt ho).trans (below_set h.hB (Nat.le_trans h.size ho.size) _ _)⟩
theorem ScW.appGap (h : ScW B W g s q) (hown : W2.ownsRow B 5 1 v2 (s.ln.gap.length + ys.length) (s.ln.gap.map u8 ++ ys.map u8)) (ho : Only (fun k => q.gv.ownBlock = some k) W W2) (hat : Hat q.gv v2 W) :
    Blk W2 g 70 (scCells s q) ∧ ScX B g { s with ln := { s.ln with gap := s.ln.gap ++ ys } } W (W2.setCell ⟨g, 3, none⟩ v2) := by
  have hne := (h.rows.ne h.blk).1 2 (by decide)
  have hlt := fun k hk => ((h.rows.cur 2 (by decide)).lt k hk).1
  have hb : Blk W2 g 70 (scCells s q) := h.keepBlk hne ho
  have hw : W2.ownsRow B 5 1 v2 (s.ln.gap ++ ys).length ((s.ln.gap ++ ys).map u8) := by rw [List.length_append, List.map_append]; exact hown
  refine ⟨hb, ⟨{ q with gv := v2 }, ScW.store (Nat.le_trans h.size ho.size) hb 3 v2 (by simp [scCells]) (h.rows.up2 hat ho hw) h.keys⟩, (only_below h.size hlt ho).trans (below_set h.hB (Nat.le_trans h.size ho.size) _ _)⟩
theorem ScW.opn (h : ScW B W g s q) (b : Bool) : ScW B (W.setCell ⟨g, 4, none⟩ (.bool b)) g { s with ln := { s.ln with opn := b } } q := ScW.store h.hB h.blk 4 _ (by simp [scCells]) h.rows h.keys
theorem ScW.spr (h : ScW B W g s q) (b : Bool) : ScW B (W.setCell ⟨g, 5, none⟩ (.bool b)) g { s with ln := { s.ln with spr := b } } q := ScW.store h.hB h.blk 5 _ (by simp [scCells]) h.rows h.keys
theorem ScW.place (h : ScW B W g s q) (p : Nat) : ScW B (W.setCell ⟨g, 7, none⟩ (.int .i64 (p : Int))) g (s.to p) q := ScW.store h.hB h.blk 7 _ (by simp [scCells, Sc.to]) h.rows h.keys
theorem ScW.gapNil (h : ScW B W g s q) : ScW B (W.setCell ⟨g, 3, none⟩ (.slice none 0 0)) g { s with ln := { s.ln with gap := [] } } { q with gv := .slice none 0 0 } :=
  ScW.store h.hB h.blk 3 _ (by simp [scCells]) (h.rows.up2 (.inr fun j hj => by cases hj) (Only.refl _ _) (own_nil5 W B)) h.keys
theorem own_one (W : World) (hB : B ≤ W.heap.size) (c : UInt8) : (W.alloc (.cells #[.int .u8 (c.toNat : Int)] 5)).ownsRow B 5 1 (.slice (some ⟨W.heap.size, 0, none⟩) 1 1) ([c] : List UInt8).length (([c] : List UInt8).map u8) :=
  ⟨rfl, .inr ⟨W.heap.size, 1, _, rfl, hB, heap_alloc_new W _, Nat.le_refl _, by unfold maxLen; omega, rfl, rfl⟩⟩
theorem ScW.gapOne (h : ScW B W g s q) (c : UInt8) : ScX B g { s with ln := { s.ln with gap := [c] } } W ((W.alloc (.cells #[.int .u8 (c.toNat : Int)] 5)).setCell ⟨g, 3, none⟩ (.slice (some ⟨W.heap.size, 0, none⟩) 1 1)) := by
  have hb := (Below.refl W.heap.size W).alloc (Nat.le_refl _) (.cells #[.int .u8 (c.toNat : Int)] 5)
  have h2 := h.below hb
  refine ⟨⟨{ q with gv := .slice (some ⟨W.heap.size, 0, none⟩) 1 1 }, ScW.store h2.hB h2.blk 3 _ (by simp [scCells]) ?_ h.keys⟩, (Fp.of (hb.mono h.size)).trans (below_set h.hB (Nat.le_trans h.size hb.size) _ _)⟩
  refine h.rows.up2 (.inr fun j hj => ?_) (Only.of_below hb) (own_one W h.size c)
  cases hj
  exact Nat.le_refl _
theorem ScW.nameOne (h : ScW B W g s q) (c : UInt8) : ScX B g { s with ln := { s.ln with name := [c] } } W ((W.alloc (.cells #[.int .u8 (c.toNat : Int)] 5)).setCell ⟨g, 1, none⟩ (.slice (some ⟨W.heap.size, 0, none⟩) 1 1)) := by
  have hb := (Below.refl W.heap.size W).alloc (Nat.le_refl _) (.cells #[.int .u8 (c.toNat : Int)] 5)
  have h2 := h.below hb
  refine ⟨⟨{ q with nv := .slice (some ⟨W.heap.size, 0, none⟩) 1 1 }, ScW.store h2.hB h2.blk 1 _ (by simp [scCells]) ?_ h.keys⟩, (Fp.of (hb.mono h.size)).trans (below_set h.hB (Nat.le_trans h.size hb.size) _ _)⟩
  refine h.rows.up0 (.inr fun j hj => ?_) (Only.of_below hb) (own_one W h.size c)
  cases hj
  exact Nat.le_refl _
theorem ScX.trans {g : Nat} {s : Sc} {W W1 W2 : World} (h : Fp B g W W1) (k : ScX B g s W1 W2) : ScX B g s W W2 := ⟨k.1, h.trans k.2⟩

/-- The cells of a scanner, one by one. -/
theorem cells_of {W : World} {g at_ pl : Nat} {nv tv gv dv : Value} {op sp lo : Bool} {n t p : List UInt8} {dn : List Ln} {ds : List Ld} (h : Blk W g 70 (scCells ⟨⟨at_, n, t, p, op, sp⟩, lo, pl, dn⟩ ⟨nv, tv, gv, dv, ds⟩)) :
    Blk W g 70 #[.int .i64 (at_ : Int), nv, tv, gv, .bool op, .bool sp, .bool lo, .int .i64 (pl : Int), dv] := h
set_option maxRecDepth 100000 in
set_option maxHeartbeats 1000000 in
theorem wait_any (h : ScW B W g s q) (hs : ScSz s 10000000) (c : UInt8) :
    Calls Tryd.prog 73 #[.pointer (some ⟨g, 0, none⟩), .int .u8 (c.toNat : Int)] W fun e w' => e = .returned (.tuple #[]) ∧ ScX B g { s with ln := s.ln.wait c } W w' := by
  obtain ⟨⟨A0, c0, e0⟩, ⟨A1, c1, e1⟩, ⟨A2, c2, e2⟩, A3, c3, e3⟩ := h.forms
  obtain ⟨nv, tv, gv, dv, ds⟩ := q
  obtain ⟨⟨at_, n, t, p, op, sp⟩, lo, pl, dn⟩ := s
  simp only at e0 e1 e2 e3
  subst e0 e1 e2 e3
  have hsp : (sp || decide (c ≠ 32)) = (sp || (((c.toNat : Nat) : Int) != 32)) := by
    congr 1
    rw [Bool.eq_iff_iff, decide_eq_true_eq, bne_iff_ne, Ne, Ne, u8_iff]
    have : (32 : UInt8).toNat = 32 := rfl
    rw [this]
    omega
  have hu : ([c] : List UInt8).map Go.Proofs.YtkalllenggmgoaaDoor.u8 = [.int .u8 (c.toNat : Int)] := rfl
  have HU := Lib.hid hu
  have H := Lib.hid h
  have HSZ := Lib.hid hs.tx
  obtain ⟨k0, k1, k2, k3, k4, k5⟩ : W.cell? ⟨g, 3, none⟩ = some (.slice A2 p.length c2) ∧ True ∧ True ∧ True ∧ True ∧ True := ⟨(cells_of h.blk).cell 3, trivial, trivial, trivial, trivial, trivial⟩
  have HG : Hid (W.ownsRow B 5 1 (.slice A2 p.length c2) p.length (p.map Go.Proofs.YtkalllenggmgoaaDoor.u8)) := Lib.hid (h.rows.cur 2 (by decide))
  have HSP := Lib.hid hsp
  have HB := Lib.hid h.size
  have HSZ2 : Hid (p.length ≤ 10000000) := Lib.hid (by have := hs.tx; simp at this; omega)
  obtain ⟨x, hx⟩ : ∃ x : Int, (c.toNat : Int) = x := ⟨_, rfl⟩
  rw [hx] at HU HSP ⊢
  clear h hs hsp hu k1 k2 k3 k4 k5 hx
  obtain ⟨wo, rfl⟩ : ∃ wo, wo = W := ⟨_, rfl⟩
  go_enter Tryd.func73, Tryd.ntmps73
  go_wp2_with (at_builtin; go_must (refine wpList_app_own (base := B) (n := p.length) (m := 1) (xs := p.map Go.Proofs.YtkalllenggmgoaaDoor.u8) (news := [.int .u8 x]) rfl (.tmp 8) (.tmp 10) 26 rfl el22 rfl (own_alloc HG.out) rfl (Holds.one _ _ _) (by simp [Value.oneCell']) (by have := HSZ2.out; unfold maxLen; omega) (by have := HSZ2.out; omega) (by have := HB.out; simp; omega) ?_; intro v2 w2 hown hg hat; refine Hid.out ?_))
  obtain ⟨A4, c4, e4, -⟩ := own_form hown
  subst e4
  rw [← HU.out] at hown
  obtain ⟨hb2, hx2⟩ := H.out.appGap (ys := [c]) hown (Only.app hg) (Hat.app hat)
  obtain ⟨⟨q2, hq2⟩, hbl⟩ := hx2
  have j3 := hb2.cell 3
  have j3f := hb2.frozen 3
  have j3' : w2.cell? ⟨g, 3, none⟩ = some (.slice A2 p.length c2) := j3
  clear j3 hb2 hown hg hat
  have HQ2 := Lib.hid hq2
  have HBL := Lib.hid hbl
  clear hq2 hbl
  refine Lib.hid ?_
  go_upto_region 1 with fail
  obtain ⟨w3, hw3⟩ : ∃ w3, w2.setCell ⟨g, 3, none⟩ (.slice A4 (p.length + 1) c4) = w3 := ⟨_, rfl⟩
  rw [hw3] at HQ2 HBL
  rw [hw3]
  have m5 : w3.cell? ⟨g, 5, none⟩ = some (.bool sp) := HQ2.out.blk.cell 5
  have m5f := HQ2.out.blk.frozen 5
  clear hw3 j3' j3f k0
  have HF := Lib.hid (HQ2.out.spr (sp || (x != 32)))
  have HFB := Lib.hid (HBL.out.trans (below_set (g := g) (B := B) H.out.hB HQ2.out.size 5 (.bool (sp || (x != 32)))))
  have HFIN : Hid (∀ w', ScW B w' g ⟨⟨at_, n, t, p ++ [c], op, sp || (x != 32)⟩, lo, pl, dn⟩ q2 → Fp B g wo w' → ScX B g ⟨⟨at_, n, t, p ++ [c], op, sp || decide (c ≠ 32)⟩, lo, pl, dn⟩ wo w') := Lib.hid (fun w' h1 h2 => by rw [HSP.out]; exact ⟨⟨q2, h1⟩, h2⟩)
  have HF2 := Lib.hid (HFIN.out _ HF.out HFB.out)
  clear HFIN HF HFB
  cases sp with
  | true =>
    go_wp2_with fail
    first | go_end0 | skip
    exact ⟨rfl, HF2.out⟩
  | false =>
    cases hq : (x != 32) <;>
    · rw [hq] at HF2
      go_wp2_with fail
      first | go_end0 | skip
      exact ⟨rfl, HF2.out⟩
end Go.Proofs.YtkalllenggmgoaaDoor

/- Two writers. -/
import Derived.Test.YtgbkoegmoelheaaDb
import Derived.Test.YtgbkoegmoelheaaDf
namespace Go.Proofs.Ytgbkoegmoelheaa
open Go.RowKit
set_option linter.unusedVariables false
set_option linter.unusedSimpArgs false
set_option maxRecDepth 100000

theorem wf_hat {g : Nat} {vb vb2 : Value} {W : World} (h : Hat vb vb2 W) {k : Nat} (hk : k < W.heap.size) (hf : WF g vb2 k) : WF g vb k := by
  rcases hf with rfl | hf
  · exact .inl rfl
  · rcases h with h | h
    · exact .inr (h ▸ hf)
    · have := h k hf; omega
/-- Two writers, each beside its reference in a box. -/
structure TW (w : World) (B g r g2 x q : Nat) (s s' : StP) (vb vl : Value) (dsw : List Pd) (Ab : Option Addr) (nb cb : Nat) (Al : Option Addr) (nl cl : Nat) (ds : List Pd) (vb' vl' : Value) (dsw' : List Pd) (Ab' : Option Addr) (nb' cb' : Nat) (Al' : Option Addr) (nl' cl' : Nat) (ds' : List Pd) (W : World) : Prop where
  ws1 : WS W B g vb vl dsw s
  ws2 : WS W B g2 vb' vl' dsw' s'
  rs1 : RS W Ab nb cb Al nl cl ds s
  rs2 : RS W Ab' nb' cb' Al' nl' cl' ds' s'
  fp1 : FP (WG g vb (WF g2 vb')) Ab nb Al nl ds
  fp2 : FP (WG g2 vb' (WF g vb)) Ab' nb' Al' nl' ds'
  b1 : Blk W r 48 #[.slice Ab nb cb, .slice Al nl cl, .int .i64 s.last]
  b2 : Blk W x 48 #[.slice Ab' nb' cb', .slice Al' nl' cl', .int .i64 s'.last]
  bel : Below w.heap.size w W
  sep12 : ∀ k, WF g vb k → ¬ WK g2 vb' vl' dsw' k
  sep21 : ∀ k, WF g2 vb' k → ¬ WK g vb vl dsw k
  rx : r ≠ x
  wB : w.heap.size ≤ B
  wr : w.heap.size ≤ r
  wx : w.heap.size ≤ x
  l1 : s.b.length ≤ q * 8206
  l2 : s'.b.length ≤ q * 8206
section
variable {w : World} {B g r g2 x q : Nat} {s s' : StP} {vb vl : Value} {dsw : List Pd} {Ab : Option Addr} {nb cb : Nat} {Al : Option Addr} {nl cl : Nat} {ds : List Pd} {vb' vl' : Value} {dsw' : List Pd} {Ab' : Option Addr} {nb' cb' : Nat} {Al' : Option Addr} {nl' cl' : Nat} {ds' : List Pd} {W : World}
theorem TW.swap (h : TW w B g r g2 x q s s' vb vl dsw Ab nb cb Al nl cl ds vb' vl' dsw' Ab' nb' cb' Al' nl' cl' ds' W) : TW w B g2 x g r q s' s vb' vl' dsw' Ab' nb' cb' Al' nl' cl' ds' vb vl dsw Ab nb cb Al nl cl ds W :=
  ⟨h.ws2, h.ws1, h.rs2, h.rs1, h.fp2, h.fp1, h.b2, h.b1, h.bel, h.sep21, h.sep12, h.rx.symm, h.wB, h.wx, h.wr, h.l2, h.l1⟩
theorem TW.below (h : TW w B g r g2 x q s s' vb vl dsw Ab nb cb Al nl cl ds vb' vl' dsw' Ab' nb' cb' Al' nl' cl' ds' W) {W2 : World} (hb : Below W.heap.size W W2) : TW w B g r g2 x q s s' vb vl dsw Ab nb cb Al nl cl ds vb' vl' dsw' Ab' nb' cb' Al' nl' cl' ds' W2 :=
  ⟨h.ws1.below hb, h.ws2.below hb, h.rs1.below hb, h.rs2.below hb, h.fp1, h.fp2, h.b1.below hb h.b1.lt, h.b2.below hb h.b2.lt, h.bel.trans (hb.mono h.bel.size), h.sep12, h.sep21, h.rx, h.wB, h.wr, h.wx, h.l1, h.l2⟩
theorem TW.notr (h : TW w B g r g2 x q s s' vb vl dsw Ab nb cb Al nl cl ds vb' vl' dsw' Ab' nb' cb' Al' nl' cl' ds' W) : ¬ WF g vb r := fun hf => h.ws1.notWK h.b1 (by decide) (by decide) (by decide) (.inl hf)
theorem TW.notx (h : TW w B g r g2 x q s s' vb vl dsw Ab nb cb Al nl cl ds vb' vl' dsw' Ab' nb' cb' Al' nl' cl' ds' W) : ¬ WF g vb x := fun hf => h.ws1.notWK h.b2 (by decide) (by decide) (by decide) (.inl hf)
theorem TW.step (h : TW w B g r g2 x q s s' vb vl dsw Ab nb cb Al nl cl ds vb' vl' dsw' Ab' nb' cb' Al' nl' cl' ds' W) {W1 W2 : World} {s2 : StP} {vb2 vl2 : Value} {dsw2 : List Pd} {Ab2 : Option Addr} {nb2 cb2 : Nat} {Al2 : Option Addr} {nl2 cl2 : Nat} {ds2 : List Pd}
    (hws : WS W1 B g vb2 vl2 dsw2 s2) (hrs : RS W1 Ab2 nb2 cb2 Al2 nl2 cl2 ds2 s2) (hfp : FP (WG g vb2 (WF g2 vb')) Ab2 nb2 Al2 nl2 ds2) (hon : Only (WF g vb) W W1) (hat : Hat vb vb2 W) (hwk : ∀ k, k < W.heap.size → WK g vb2 vl2 dsw2 k → WK g vb vl dsw k)
    (hz : Blk W2 r 48 #[.slice Ab2 nb2 cb2, .slice Al2 nl2 cl2, .int .i64 s2.last]) (ho : Only (fun k => k = r) W1 W2) (hl : s2.b.length ≤ (q + 1) * 8206) : TW w B g r g2 x (q + 1) s2 s' vb2 vl2 dsw2 Ab2 nb2 cb2 Al2 nl2 cl2 ds2 vb' vl' dsw' Ab' nb' cb' Al' nl' cl' ds' W2 := by
  have hb1 := h.b1.only hon h.notr
  have hw2 := h.ws2.only hon (fun k hk h1 => h.sep12 k h1 hk)
  refine ⟨hws.only ho fun k hk e => hws.notWK hb1 (by decide) (by decide) (by decide) (e ▸ hk), hw2.only ho fun k hk e => hw2.notWK hb1 (by decide) (by decide) (by decide) (e ▸ hk), RS.box hrs hb1 ho, RS.box (h.rs2.only h.fp2 hon fun k hk _ => .inr hk) hb1 ho, hfp, h.fp2.imp h.rs2 ?_, hz, (h.b2.only hon h.notx).only ho (fun e => h.rx e.symm), ?_, ?_, ?_, h.rx, h.wB, h.wr, h.wx, hl, by have := h.l2; omega⟩
  · rintro k hk (hf | hf)
    · exact .inl hf
    · exact .inr (wf_hat hat hk hf)
  · refine (h.bel.trans (hon.to_below h.bel.size fun k hk hf => ?_)).trans (ho.to_below (Nat.le_trans h.bel.size hon.size) fun k hk e => by have := h.wr; omega)
    have := h.ws1.ge k (.inl hf)
    have := h.wB
    omega
  · intro k hf hk
    exact h.sep12 k (wf_hat hat (h.ws2.lt k hk) hf) hk
  · intro k hf hk
    exact h.sep21 k hf (hwk k (h.ws2.lt k (.inl hf)) hk)
end
def TWx (w : World) (B g r g2 x q : Nat) (W : World) : Prop := ∃ s s' vb vl dsw Ab nb cb Al nl cl ds vb' vl' dsw' Ab' nb' cb' Al' nl' cl' ds', TW w B g r g2 x q s s' vb vl dsw Ab nb cb Al nl cl ds vb' vl' dsw' Ab' nb' cb' Al' nl' cl' ds' W
def LWx (w : World) (B g r i : Nat) (W : World) : Prop := ∃ s vb vl dsw Ab nb cb Al nl cl ds, LW w B g r i (fun _ => False) s vb vl dsw Ab nb cb Al nl cl ds W
theorem TWx.swap {w : World} {B g r g2 x q : Nat} {W : World} (h : TWx w B g r g2 x q W) : TWx w B g2 x g r q W := by
  obtain ⟨s, s', vb, vl, dsw, Ab, nb, cb, Al, nl, cl, ds, vb', vl', dsw', Ab', nb', cb', Al', nl', cl', ds', h⟩ := h
  exact ⟨s', s, vb', vl', dsw', Ab', nb', cb', Al', nl', cl', ds', vb, vl, dsw, Ab, nb, cb, Al, nl, cl, ds, h.swap⟩
theorem TWx.below {w : World} {B g r g2 x q : Nat} {W W2 : World} (h : TWx w B g r g2 x q W) (hb : Below W.heap.size W W2) : TWx w B g r g2 x q W2 := by
  obtain ⟨s, s', vb, vl, dsw, Ab, nb, cb, Al, nl, cl, ds, vb', vl', dsw', Ab', nb', cb', Al', nl', cl', ds', h⟩ := h
  exact ⟨s, s', vb, vl, dsw, Ab, nb, cb, Al, nl, cl, ds, vb', vl', dsw', Ab', nb', cb', Al', nl', cl', ds', h.below hb⟩
theorem TWx.more {w : World} {B g r g2 x q q2 : Nat} {W : World} (h : TWx w B g r g2 x q W) (hq : q ≤ q2) : TWx w B g r g2 x q2 W := by
  obtain ⟨s, s', vb, vl, dsw, Ab, nb, cb, Al, nl, cl, ds, vb', vl', dsw', Ab', nb', cb', Al', nl', cl', ds', h⟩ := h
  have hm : q * 8206 ≤ q2 * 8206 := Nat.mul_le_mul_right _ hq
  exact ⟨s, s', vb, vl, dsw, Ab, nb, cb, Al, nl, cl, ds, vb', vl', dsw', Ab', nb', cb', Al', nl', cl', ds', ⟨h.ws1, h.ws2, h.rs1, h.rs2, h.fp1, h.fp2, h.b1, h.b2, h.bel, h.sep12, h.sep21, h.rx, h.wB, h.wr, h.wx, Nat.le_trans h.l1 hm, Nat.le_trans h.l2 hm⟩⟩
theorem twx_start {w : World} {B g r i g2 x q : Nat} {s : StP} {vb vl : Value} {dsw : List Pd} {Ab : Option Addr} {nb cb : Nat} {Al : Option Addr} {nl cl : Nat} {ds : List Pd} {W0 W1 W : World} (h : LW w B g r i (fun _ => False) s vb vl dsw Ab nb cb Al nl cl ds W0) (hb : Below W0.heap.size W0 W1) (hc : ∃ vb2 vl2, WS W B g2 vb2 vl2 dsw s ∧ (∀ k, WF g2 vb2 k → W0.heap.size ≤ k) ∧ ∀ k, vl2.ownBlock = some k → W0.heap.size ≤ k) (hbw : Below W0.heap.size W0 W) (hx : Blk W x 48 #[.slice Ab nb cb, .slice Al nl cl, .int .i64 s.last]) (hx0 : W0.heap.size ≤ x) (hwB : w.heap.size ≤ B) (hwr : w.heap.size ≤ r) (hi : i ≤ q) : TWx w B g r g2 x q W := by
  obtain ⟨vb2, vl2, h2, h3, h4⟩ := hc
  have hlen : s.b.length ≤ q * 8206 := Nat.le_trans h.len (Nat.mul_le_mul_right _ hi)
  refine ⟨s, s, vb, vl, dsw, Ab, nb, cb, Al, nl, cl, ds, vb2, vl2, dsw, Ab, nb, cb, Al, nl, cl, ds, h.ws.below hbw, h2, h.rs.below hbw, h.rs.below hbw, h.fp.imp h.rs ?_, h.fp.imp h.rs ?_, h.blk.below hbw h.blk.lt, hx, h.bel.trans (hbw.mono h.bel.size), ?_, ?_, fun e => by have := h.blk.lt; omega, hwB, hwr, Nat.le_trans h.bel.size hx0, hlen, hlen⟩
  · rintro k hk (hf | hf)
    · exact .inl hf
    · have := h3 k hf; omega
  · rintro k hk (hf | hf)
    · have := h3 k hf; omega
    · exact .inl hf
  · rintro k hf (hk | hk | hk)
    · have := h3 k hk; have := h.ws.lt k (.inl hf); omega
    · have := h4 k hk; have := h.ws.lt k (.inl hf); omega
    · obtain ⟨p, hp, hk⟩ := hk
      rcases hf with rfl | hf
      · exact own_neP (h.ws.po.data p hp) h.ws.blk (by decide) hk
      · exact h.ws.sep p hp k hf hk
  · intro k hf hk
    have h5 := h3 k hf
    have h6 := h.ws.lt k hk
    omega
end Go.Proofs.Ytgbkoegmoelheaa

/- FrameFeeds: the law's walk. -/
import Derived.Test.YtibkhjpjneoabaaGd
import Derived.Test.YtibkhjpjneoabaaRw
namespace Go.Proofs.Ytibkhjpjneoabaa
open Go.RowKit
set_option linter.unusedVariables false
set_option linter.unusedSimpArgs false

/-- The box of what the reference yields. -/
def FeX (g : Nat) (A : Option Addr) (n cp : Nat) (br : Bool) (W : World) : Prop := W.cell? ⟨g, 0, none⟩ = some (.slice A n cp) ∧ W.cell? ⟨g, 1, none⟩ = some (.bool br)
theorem FeX.below {g n cp : Nat} {A : Option Addr} {br : Bool} {w W : World} (h : FeX g A n cp br w) (hb : Below w.heap.size w W) : FeX g A n cp br W :=
  ⟨(hb.cell (World.block_lt_of_cell? _ _ h.1)).trans h.1, (hb.cell (World.block_lt_of_cell? _ _ h.2)).trans h.2⟩
/-- What the loop over the pieces keeps. -/
structure FeI (w W : World) (B r : Nat) (k m c : Int) (bs : List UInt8) (v va : Value) : Prop where
  rd : RdS W B r k m c v (feedS k m c St.new bs).1
  hr : B ≤ r
  wB : w.heap.size < B
  F : Blk W w.heap.size 24 #[.int .i64 k, .int .i64 m, .int .i64 c]
  all : W.ownsRow B 5 1 va bs.length (bs.map u8)
  sep : ∀ j, va.ownBlock = some j → v.ownBlock ≠ some j
  below : Below w.heap.size w W
section
variable {w W W2 : World} {B r : Nat} {k m c : Int} {bs : List UInt8} {v va : Value}
theorem FeI.sfo (h : FeI w W B r k m c bs v va) : ∀ j, SFo r v j → B ≤ j := fun j hj => by
  rcases hj with rfl | hj
  · exact h.hr
  · exact (h.rd.own.lt j hj).1
theorem FeI.sz (h : FeI w W B r k m c bs v va) : B ≤ W.heap.size := h.rd.base
theorem FeI.over (h : FeI w W B r k m c bs v va) (hb : Below W.heap.size W W2) : FeI w W2 B r k m c bs v va :=
  ⟨h.rd.below hb, h.hr, h.wB, h.F.below hb h.F.lt, own_keeps h.all fun g hg => hb.block g (own_lt h.all g hg), h.sep, h.below.trans (hb.mono h.below.size)⟩
end
/-- Behind Feed: the reader has read l, too; the list of results; the call's own bytes. -/
structure Fe2 (w W : World) (B r : Nat) (k m c : Int) (bs l : List UInt8) (v va : Value) (N1 : Nat) (vo : Value) (no : Nat) (A3 : Option Addr) (c3 : Nat) (es : List Fd) : Prop where
  rd : RdS W B r k m c v (feedS k m c St.new (bs ++ l)).1
  hr : B ≤ r
  wB : w.heap.size < B
  F : Blk W w.heap.size 24 #[.int .i64 k, .int .i64 m, .int .i64 c]
  all : W.ownsRow B 5 1 va bs.length (bs.map u8)
  sep : ∀ j, va.ownBlock = some j → v.ownBlock ≠ some j
  below : Below w.heap.size w W
  got : FrL W N1 (.slice A3 es.length c3) es
  fr : es.map Fd.fr = (feedS k m c (feedS k m c St.new bs).1 l).2
  lta : ∀ j, va.ownBlock = some j → j < N1
  own : ByteRow W B vo no
  sepo : ∀ j, vo.ownBlock = some j → v.ownBlock ≠ some j
  sepa : ∀ j, vo.ownBlock = some j → va.ownBlock ≠ some j
  lto : ∀ j, vo.ownBlock = some j → j < N1
  apart : ∀ d ∈ es, ∀ j, d.val.ownBlock = some j → v.ownBlock ≠ some j
section
variable {w wo W W2 w2 w3 : World} {B r : Nat} {k m c : Int} {bs l : List UInt8} {v va v3 : Value} {N1 no : Nat} {vo : Value} {A3 : Option Addr} {c3 : Nat} {es : List Fd}
theorem FeI.fed (h : FeI w wo B r k m c bs v va) (hb : Below wo.heap.size wo w2) (ho : w2.ownsRow wo.heap.size 5 1 vo no (l.map u8)) (hno : l.length = no)
    (e : EaI w2 w3 B r k m c v (feedS k m c (feedS k m c St.new bs).1 l).1 (.slice A3 es.length c3) v3 es) (hf : es.map Fd.fr = (feedS k m c (feedS k m c St.new bs).1 l).2) : Fe2 w w3 B r k m c bs l v3 va w2.heap.size vo no A3 c3 es := by
  have h2 := h.over hb
  have hvl : ∀ j, v.ownBlock = some j → j < wo.heap.size := fun j hj => own_lt h.rd.own j hj
  have hol := ho.lt
  have hal := own_lt h2.all
  refine ⟨by rw [feedS_app]; exact e.rd, h.hr, h.wB, h2.F.only e.only (fun hs => ?_), own_only h2.all e.only (fun j hj hs => ?_), fun j hj hs => ?_, h2.below.trans (e.only.to_below h2.below.size fun b hb hs => by have := h.sfo b hs; have := h.wB; omega), e.frs, hf, hal, ByteRow.of (own_base (own_only ho e.only fun j hj hs => ?_) h.sz), fun j hj hs => ?_, fun j hj hs => ?_, fun j hj => (hol j hj).2, e.apart⟩
  · have := h.sfo _ hs; have := h.wB; omega
  · rcases hs with rfl | hs
    · exact own_neB h2.all h2.rd.blk (by decide) hj
    · exact h.sep j hj hs
  · rcases e.hat with q | q
    · exact h.sep j hj (q ▸ hs)
    · have := q j hs; have := hal j hj; omega
  · have := (hol j hj).1
    rcases hs with rfl | hs
    · have := h.rd.blk.lt; omega
    · have := hvl j hs; omega
  · have h1 := hol j hj
    rcases e.hat with q | q
    · have := hvl j (q ▸ hs); omega
    · have := q j hs; omega
  · have := (hol j hj).1
    have := own_lt h.all j hs
    omega
theorem Fe2.turned (h : Fe2 w W B r k m c bs l v va N1 vo no A3 c3 es) (hg : W.grownBy W2 vo.ownBlock) (hr : ByteRow W2 B vo no) (hN : N1 ≤ W.heap.size) : Fe2 w W2 B r k m c bs l v va N1 vo no A3 c3 es := by
  have ho : Only (fun q => vo.ownBlock = some q) W W2 := Only.grown (Only.refl _ _) hg fun g e _ => e
  obtain ⟨L, hL, hown⟩ := h.own
  refine ⟨h.rd.only ho fun q hq e => ?_, h.hr, h.wB, h.F.only ho (fun e => own_neB hown h.F (by decide) e), own_only h.all ho fun j hj e => h.sepa j e hj, h.sep, h.below.trans (ho.to_below h.below.size fun b hb e => by have := (hown.lt b e).1; have := h.wB; omega), h.got.only ho (fun j hj e => ?_) (fun d hd j hj e => ?_), h.fr, h.lta, hr, h.sepo, h.sepa, h.lto, h.apart⟩
  · rcases hq with rfl | hq
    · exact own_neB hown h.rd.blk (by decide) e
    · exact h.sepo q e hq
  · have := h.lto j e; have := (h.got.own.lt j hj).1; omega
  · have := h.lto j e; have := ((h.got.rows d hd).lt j hj).1; omega
theorem Fe2.grow (h : Fe2 w W B r k m c bs l v va N1 vo no A3 c3 es) {va2 : Value} (hown : W2.ownsRow B 5 1 va2 (bs.length + l.length) (bs.map u8 ++ l.map u8)) (hg : W.grownBy W2 va.ownBlock) (hat : va2.ownBlock = va.ownBlock ∨ va2.ownBlock = some W.heap.size) :
    FeI w W2 B r k m c (bs ++ l) v va2 ∧ FrL W2 N1 (.slice A3 es.length c3) es ∧ ∀ d ∈ es, ∀ j, d.val.ownBlock = some j → v.ownBlock ≠ some j := by
  have ho : Only (fun q => va.ownBlock = some q) W W2 := Only.grown (Only.refl _ _) hg fun g e _ => e
  refine ⟨⟨h.rd.only ho fun q hq e => ?_, h.hr, h.wB, h.F.only ho (fun e => own_neB h.all h.F (by decide) e), by rw [List.length_append, List.map_append]; exact hown, fun j hj hs => ?_, h.below.trans (ho.to_below h.below.size fun b hb e => by have := (h.all.lt b e).1; have := h.wB; omega)⟩, h.got.only ho (fun j hj e => ?_) (fun d hd j hj e => ?_), h.apart⟩
  · rcases hq with rfl | hq
    · exact own_neB h.all h.rd.blk (by decide) e
    · exact h.sep q e hq
  · rcases hat with q | q
    · exact h.sep j (q ▸ hj) hs
    · rw [q] at hj
      cases hj
      have := own_lt h.rd.own _ hs
      omega
  · have := h.lta j e; have := (h.got.own.lt j hj).1; omega
  · have := h.lta j e; have := ((h.got.rows d hd).lt j hj).1; omega
end

set_option maxRecDepth 100000 in
set_option maxHeartbeats 16000000 in
theorem feeds_law (k m c : Int) (L : Option Addr) (len cL : Nat) (f : Nat → Pk) (w : World) (_ : (Lit.int .i64 k).wf = true) (_ : (Lit.int .i64 m).wf = true) (_ : (Lit.int .i64 c).wf = true) (hs : PSS w L len f) :
    Calls Try.prog 6 #[.agg #[.int .i64 k, .int .i64 m, .int .i64 c], .slice L len cL] w fun e w' => e = .returned (.bool true) ∧ Below w.heap.size w w' := by
  obtain ⟨W0, hW0⟩ : ∃ W0, w.alloc (.cells #[.int .i64 k, .int .i64 m, .int .i64 c] 24) = W0 := ⟨_, rfl⟩
  have hb0 : Below w.heap.size w W0 := hW0 ▸ (Below.refl _ w).alloc (Nat.le_refl _) _
  have kf : Blk W0 w.heap.size 24 #[.int .i64 k, .int .i64 m, .int .i64 c] := hW0 ▸ Blk.new w 24 _
  obtain ⟨f0, f1, f2⟩ : W0.cell? ⟨w.heap.size, 0, none⟩ = some (.int .i64 k) ∧ W0.cell? ⟨w.heap.size, 1, none⟩ = some (.int .i64 m) ∧ W0.cell? ⟨w.heap.size, 2, none⟩ = some (.int .i64 c) := ⟨kf.cell 0, kf.cell 1, kf.cell 2⟩
  have C9 := Lib.hid (few_any L len cL f W0 (hs.below hb0))
  have C10 := Lib.hid (fun W => known_any W)
  have HW0 := Lib.hid hW0
  have HB0 := Lib.hid hb0
  have KF := Lib.hid kf
  have HS := Lib.hid hs
  unfold FewD at C9
  clear hW0 hb0 kf hs
  go_enter Try.func6, Try.ntmps6
  go_upto_region 1 with fail
  rw [HW0.out]
  clear HW0
  go_wp2_with (go_at_call 9; (with_reducible refine C9.out.mono ?_); rintro e w1 ⟨b, rfl, rfl, hb⟩; refine Hid.out ?_)
  refine Lib.hid ?_
  cases b with
  | false =>
    clear hb
    go_wp2_with (go_at_call 10; (with_reducible refine (C10.out _).mono ?_); rintro e w9 ⟨rfl, b9⟩; have HB9 := Lib.hid (HB0.out.trans (b9.mono HB0.out.size)); clear b9)
    go_ret
    exact ⟨rfl, HB9.out⟩
  | true =>
  obtain ⟨hl, h7⟩ := hb rfl
  have h8 : ∀ i, i < len → (f i).l.length ≤ 700 := fun i hi => by
    obtain ⟨b, o, -, -, -, hr⟩ := HS.out.2 i hi
    rw [hr.len]; exact h7 i hi
  rcases (ok_or_bad k m c).symm with hBad | hF
  · have C16 := Lib.hid (new_no k m c hBad W0)
    have C14 := Lib.hid (fun W => rvalid_no k m c W hBad)
    unfold FV at C16 C14
    clear hb hl h7 h8 hBad f0 f1 f2
    obtain ⟨f0, f1, f2⟩ : W0.cell? ⟨w.heap.size, 0, none⟩ = some (.int .i64 k) ∧ W0.cell? ⟨w.heap.size, 1, none⟩ = some (.int .i64 m) ∧ W0.cell? ⟨w.heap.size, 2, none⟩ = some (.int .i64 c) := ⟨KF.out.cell 0, KF.out.cell 1, KF.out.cell 2⟩
    go_wp2_with (go_at_call 16; (with_reducible refine C16.out.mono ?_); rintro e w2 ⟨rfl, b2⟩; refine Hid.out ?_)
    refine Lib.hid ?_
    have HB2 := Lib.hid (HB0.out.trans (b2.mono HB0.out.size))
    have K2 := Lib.hid (KF.out.below b2 KF.out.lt)
    clear b2 f0 f1 f2
    obtain ⟨f0, f1, f2⟩ : w2.cell? ⟨w.heap.size, 0, none⟩ = some (.int .i64 k) ∧ w2.cell? ⟨w.heap.size, 1, none⟩ = some (.int .i64 m) ∧ w2.cell? ⟨w.heap.size, 2, none⟩ = some (.int .i64 c) := ⟨K2.out.cell 0, K2.out.cell 1, K2.out.cell 2⟩
    go_wp2_with (first
      | (go_at_call 14; (with_reducible refine (C14.out _).mono ?_); rintro e w3 ⟨rfl, b3⟩; have HB3 := Lib.hid (HB2.out.trans (b3.mono HB2.out.size)); clear b3)
      | (go_at_call 15; (with_reducible refine (num_any 2 _).mono ?_); rintro e _ ⟨rfl, rfl⟩)
      | (go_at_call 10; (with_reducible refine (C10.out _).mono ?_); rintro e w9 ⟨rfl, b9⟩; have HB9 := Lib.hid (HB3.out.trans (b9.mono HB3.out.size)); clear b9))
    go_ret
    exact ⟨rfl, HB9.out⟩
  have C16 := Lib.hid (new_yes k m c hF W0)
  have C14 := Lib.hid (fun W => rvalid_yes k m c W hF)
  unfold FV at C16 C14
  have HF := Lib.hid hF
  have HL := Lib.hid hl
  have H8 := Lib.hid h8
  clear hb hl h7 h8 hF
  go_wp2_with (go_at_call 16; (with_reducible refine C16.out.mono ?_); rintro e w2 ⟨r, rfl, hr, hrd, b2⟩; refine Hid.out ?_)
  refine Lib.hid ?_
  have HRD := Lib.hid hrd
  have HRR := Lib.hid hr
  have HB2 := Lib.hid (HB0.out.trans (b2.mono HB0.out.size))
  have K2 := Lib.hid (KF.out.below b2 KF.out.lt)
  have HKL := Lib.hid KF.out.lt
  clear b2 f0 f1 f2 hrd hr
  obtain ⟨f0, f1, f2⟩ : w2.cell? ⟨w.heap.size, 0, none⟩ = some (.int .i64 k) ∧ w2.cell? ⟨w.heap.size, 1, none⟩ = some (.int .i64 m) ∧ w2.cell? ⟨w.heap.size, 2, none⟩ = some (.int .i64 c) := ⟨K2.out.cell 0, K2.out.cell 1, K2.out.cell 2⟩
  go_wp2_with (go_at_call 14; (with_reducible refine (C14.out _).mono ?_); rintro e w3 ⟨rfl, b3⟩; refine Hid.out ?_)
  refine Lib.hid ?_
  have HI := Lib.hid (show FeI w w3 W0.heap.size r k m c [] (.slice none 0 0) (.slice none 0 0) from ⟨HRD.out.below b3, HRR.out, HKL.out, K2.out.below b3 K2.out.lt, World.ownsRow_nil _ _ 5 1, fun j h => (by cases h), HB2.out.trans (b3.mono HB2.out.size)⟩)
  obtain ⟨B, hB⟩ : ∃ B, W0.heap.size = B := ⟨_, rfl⟩
  rw [hB] at HI
  clear b3 f0 f1 f2 hB
  go_wp2_with (go_at_call 15; (with_reducible refine (num_any 0 _).mono ?_); rintro e _ ⟨rfl, rfl⟩)
  go_loopw [7, 8, 9] (fun s7 s8 s9 wr => ∃ (i : Nat) (v va : Value) (bf : Nat), s7 = va ∧ s8 = .int .i64 (bf : Int) ∧ s9 = .int .i64 (i : Int) ∧ Hid (i ≤ len) ∧ Hid (bf = (feedS k m c St.new (pks f i).flatten).2.length) ∧ Hid (FeI w wr B r k m c (pks f i).flatten v va)) (fun _ _ s9 _ => len - (intOf s9).toNat)
  case atStart => exact ⟨0, _, _, 0, rfl, rfl, rfl, Lib.hid (by omega), Lib.hid (by simp [pks, feedS]), HI⟩
  case round =>
    obtain ⟨i, v, va, bf, rfl, rfl, rfl, HIL, HBF, HI⟩ := hrel
    obtain ⟨wo, rfl⟩ : ∃ wo : World, wo = wr := ⟨_, rfl⟩
    have HPL := Lib.hid (show (pks f i).flatten.length ≤ 14000 by have := pks_flat_len f i (fun j hj => H8.out j (by have := HIL.out; omega)); have := HIL.out; have := HL.out; omega)
    have HPS := Lib.hid (show (pks f (i + 1)).flatten = (pks f i).flatten ++ (f i).l by rw [pks_succ, List.flatten_append]; simp)
    obtain ⟨bs, hbs⟩ : ∃ bs, (pks f i).flatten = bs := ⟨_, rfl⟩
    rw [hbs] at HBF HI HPL HPS
    have HFL := Lib.hid (show (feedS k m c St.new bs).1.held.length ≤ bs.length ∧ (feedS k m c St.new bs).1.off = bs.length from by
      have h := feedS_len k m c bs St.new
      have h0 : St.new.held.length = 0 := rfl
      have h1 : St.new.off = 0 := rfl
      omega)
    obtain ⟨Aa, ca, hva, -⟩ := own_form HI.out.all
    subst hva
    obtain ⟨f0, f1, f2⟩ : wo.cell? ⟨w.heap.size, 0, none⟩ = some (.int .i64 k) ∧ wo.cell? ⟨w.heap.size, 1, none⟩ = some (.int .i64 m) ∧ wo.cell? ⟨w.heap.size, 2, none⟩ = some (.int .i64 c) := ⟨HI.out.F.cell 0, HI.out.F.cell 1, HI.out.F.cell 2⟩
    have hi0 : (0 : Int) ≤ i := by omega
    by_cases hlt : (i : Int) < len
    case neg =>
      have hal := HI.out.all
      have C20 := Lib.hid (read_ref k m c HF.out Aa bs.length ca bs wo (own_RB3 hal) (by have := HPL.out; omega))
      unfold RRes FV at C20
      clear hbs hal
      have HOF := Lib.hid HFL.out.2
      have HST := Lib.hid (feedS_st2 k m c bs St.new (by decide))
      obtain ⟨p9, hp9⟩ : ∃ p9, feedS k m c St.new bs = p9 := ⟨_, rfl⟩
      have HP9 := Lib.hid hp9
      rw [hp9] at C20 HOF HST
      have HI2 := Lib.hid (show RdS wo B r k m c v p9.1 by have := HI.out.rd; rw [hp9] at this; exact this)
      obtain ⟨br9, hbr9⟩ : ∃ br9, decide (p9.1.st = 2) = br9 := ⟨_, rfl⟩
      rw [hbr9] at C20
      clear hp9 hbr9
      go_upto_region 25 with fail
      by_cases hbg : p9.1.begun = true
      · have C20' := Lib.hid (C20.out.mono fun e w' h => (show ∃ out ds, e = .returned (.agg #[out, .bool br9, .int .i64 (p9.1.at_ : Int)]) ∧ FrL w' wo.heap.size out ds ∧ ds.map Fd.fr = p9.2 ∧ Below wo.heap.size wo w' from by rw [if_pos hbg] at h; exact h))
        clear C20
        have HBG := Lib.hid hbg
        have hat0 : (0 : Int) ≤ (p9.1.at_ : Int) := by omega
        clear hbg
        go_wp2_with (go_at_call 20; (with_reducible refine C20'.out.mono ?_); rintro e w6 ⟨out6, dw, rfl, hfw, hdw, b6⟩; refine Hid.out ?_)
        refine Lib.hid ?_
        obtain ⟨Aw, cw, hw6, -⟩ := own_formS hfw.own
        subst hw6
        obtain ⟨g, hg⟩ : ∃ g, w6.heap.size = g := ⟨_, rfl⟩
        obtain ⟨w7, hw7⟩ : ∃ w7, w6.alloc (.cells #[.slice Aw dw.length cw, .bool br9, .int .i64 (p9.1.at_ : Int)] 49) = w7 := ⟨_, rfl⟩
        obtain ⟨w8, hw8⟩ : ∃ w8, w7.alloc (.cells #[.int .i64 (p9.1.at_ : Int), .slice none 0 0, .int .i64 4] 44) = w8 := ⟨_, rfl⟩
        have hb7 : Below wo.heap.size wo w7 := hw7 ▸ b6.alloc b6.size _
        have kq : w7.cell? ⟨g, 2, none⟩ = some (.int .i64 (p9.1.at_ : Int)) := hg ▸ hw7 ▸ (Blk.new w6 49 _).cell 2
        have hb8 : Below wo.heap.size wo w8 := hw8 ▸ hb7.alloc hb7.size _
        have hk8 : Blk w8 w7.heap.size 44 #[.int .i64 (p9.1.at_ : Int), .slice none 0 0, .int .i64 4] := hw8 ▸ Blk.new w7 44 _
        have HW7 := Lib.hid hw7
        have HW8 := Lib.hid hw8
        have HK8 := Lib.hid hk8
        have HRD8 := Lib.hid (HI2.out.below hb8)
        have HB8 := Lib.hid (HI.out.below.trans (hb8.mono HI.out.below.size))
        have HR7 := Lib.hid (show r < w7.heap.size from by have := HI2.out.blk.lt; have := hb7.size; omega)
        have C23 := Lib.hid (close_mid B r k m c v p9.1 w8 HF.out HRD8.out HST.out HBG.out)
        clear hfw hdw b6 hb7 hb8 hk8 hw7 hw8
        go_upto_region 26 with fail
        rw [HW7.out]
        go_upto_region 28 with fail
        rw [HW8.out]
        clear kq
        go_wp2_with (go_at_call 23; (with_reducible refine C23.out.mono ?_); rintro e w9 ⟨bl, rfl, hbl, hk9, hr9, ho9⟩; refine Hid.out ?_)
        refine Lib.hid ?_
        have HK9 := Lib.hid hk9
        have HR9 := Lib.hid hr9
        have HKL := Lib.hid (show Blk w9 w7.heap.size 44 #[.int .i64 (p9.1.at_ : Int), .slice none 0 0, .int .i64 4] from HK8.out.only ho9 (fun e => by have := HR7.out; omega))
        have HB9 := Lib.hid (HB8.out.trans (ho9.to_below HB8.out.size fun b hb e => by have := HI.out.hr; have := HI.out.wB; omega))
        have C23' := Lib.hid (close_shut B r k m c v p9.1.closed w9 HF.out hr9 rfl)
        have C17 := Lib.hid (feed_shut B r k m c v p9.1.closed none 0 0 w9 HF.out hr9 rfl)
        clear hbl hk9 hr9 ho9 C23
        go_wp2_with (first
          | (go_at_call 23; (with_reducible refine C23'.out.mono ?_); rintro e _ ⟨rfl, rfl⟩)
          | (go_at_call 17; (with_reducible refine C17.out.mono ?_); rintro e wa ⟨rfl, ba⟩; refine Hid.out ?_))
        refine Lib.hid ?_
        have HBA := Lib.hid (HB9.out.trans (ba.mono HB9.out.size))
        have C21 := Lib.hid (show Calls Try.prog 21 #[.slice (some ⟨bl, 0, none⟩) 1 1, .slice (some ⟨w7.heap.size, 0, none⟩) 1 1] wa fun e w' => e = .returned (.bool true) ∧ Below wa.heap.size wa w' from same_any (some ⟨bl, 0, none⟩) (some ⟨w7.heap.size, 0, none⟩) 1 1 [⟨⟨p9.1.at_, [], 4⟩, none, 0, 0⟩] [⟨⟨p9.1.at_, [], 4⟩, none, 0, 0⟩] wa (FrR.one (d := ⟨⟨p9.1.at_, [], 4⟩, none, 0, 0⟩) (HK9.out.below ba HK9.out.lt) rfl (RB.nil wa)) (FrR.one (d := ⟨⟨p9.1.at_, [], 4⟩, none, 0, 0⟩) (HKL.out.below ba HKL.out.lt) rfl (RB.nil wa)) rfl (by simp))
        have C22 := Lib.hid (fun W (hb : Below wa.heap.size wa W) => (show Calls Try.prog 22 #[.pointer (some ⟨r, 0, none⟩)] W fun e w' => e = .returned (.int .i64 (bs.length : Int)) ∧ W = w' from by
          have h := offset_any B r k m c v p9.1.closed W HF.out ((HR9.out.below ba).below hb)
          rw [show p9.1.closed.off = bs.length from HOF.out] at h
          exact h))
        clear ba
        go_wp2_with (first
          | (go_at_call 15; (with_reducible refine (num_any 0 _).mono ?_); rintro e _ ⟨rfl, rfl⟩)
          | (go_at_call 15; (with_reducible refine (num_any 8 _).mono ?_); rintro e _ ⟨rfl, rfl⟩)
          | (go_at_call 21; (with_reducible refine C21.out.mono ?_); rintro e wb ⟨rfl, bb⟩; have HBB := Lib.hid bb; have HBW := Lib.hid (HBA.out.trans (bb.mono HBA.out.size)); clear bb)
          | (go_at_call 22; (with_reducible refine (C22.out _ HBB.out).mono ?_); rintro e _ ⟨rfl, rfl⟩)
          | (go_at_call 10; (with_reducible refine (C10.out _).mono ?_); rintro e wz ⟨rfl, bz⟩; have HBZ := Lib.hid (HBW.out.trans (bz.mono HBW.out.size)); clear bz))
        go_ret
        exact ⟨rfl, HBZ.out⟩
      · have C20' := Lib.hid (C20.out.mono fun e w' h => (show ∃ out ds, e = .returned (.agg #[out, .bool br9, .int .i64 (-1)]) ∧ FrL w' wo.heap.size out ds ∧ ds.map Fd.fr = p9.2 ∧ Below wo.heap.size wo w' from by rw [if_neg hbg] at h; exact h))
        clear C20
        have HBG := Lib.hid (show p9.1.begun = false by simpa using hbg)
        clear hbg
        go_wp2_with (go_at_call 20; (with_reducible refine C20'.out.mono ?_); rintro e w6 ⟨out6, dw, rfl, hfw, hdw, b6⟩; refine Hid.out ?_)
        refine Lib.hid ?_
        obtain ⟨Aw, cw, hw6, -⟩ := own_formS hfw.own
        subst hw6
        obtain ⟨g, hg⟩ : ∃ g, w6.heap.size = g := ⟨_, rfl⟩
        obtain ⟨w7, hw7⟩ : ∃ w7, w6.alloc (.cells #[.slice Aw dw.length cw, .bool br9, .int .i64 (-1)] 49) = w7 := ⟨_, rfl⟩
        have hb7 : Below wo.heap.size wo w7 := hw7 ▸ b6.alloc b6.size _
        have kq : w7.cell? ⟨g, 2, none⟩ = some (.int .i64 (-1)) := hg ▸ hw7 ▸ (Blk.new w6 49 _).cell 2
        have HW7 := Lib.hid hw7
        have HRD8 := Lib.hid (HI2.out.below hb7)
        have HB8 := Lib.hid (HI.out.below.trans (hb7.mono HI.out.below.size))
        have C23 := Lib.hid (close_any B r k m c v p9.1 w7 HF.out HRD8.out HST.out HBG.out)
        clear hfw hdw b6 hb7 hw7
        go_upto_region 26 with fail
        rw [HW7.out]
        go_wp2_with (go_at_call 23; (with_reducible refine C23.out.mono ?_); rintro e w9 ⟨rfl, hr9, ho9⟩; refine Hid.out ?_)
        refine Lib.hid ?_
        have HR9 := Lib.hid hr9
        have HB9 := Lib.hid (HB8.out.trans (ho9.to_below HB8.out.size fun b hb e => by have := HI.out.hr; have := HI.out.wB; omega))
        have C23' := Lib.hid (close_shut B r k m c v p9.1.closed w9 HF.out hr9 rfl)
        have C17 := Lib.hid (feed_shut B r k m c v p9.1.closed none 0 0 w9 HF.out hr9 rfl)
        clear hr9 ho9 C23 kq
        go_wp2_with (first
          | (go_at_call 23; (with_reducible refine C23'.out.mono ?_); rintro e _ ⟨rfl, rfl⟩)
          | (go_at_call 17; (with_reducible refine C17.out.mono ?_); rintro e wa ⟨rfl, ba⟩; refine Hid.out ?_))
        refine Lib.hid ?_
        have HBA := Lib.hid (HB9.out.trans (ba.mono HB9.out.size))
        have C21 := Lib.hid (show Calls Try.prog 21 #[.slice none 0 0, .slice none 0 0] wa fun e w' => e = .returned (.bool true) ∧ Below wa.heap.size wa w' from same_any none none 0 0 [] [] wa (FrR.nil wa) (FrR.nil wa) rfl (by simp))
        have C22 := Lib.hid (fun W (hb : Below wa.heap.size wa W) => (show Calls Try.prog 22 #[.pointer (some ⟨r, 0, none⟩)] W fun e w' => e = .returned (.int .i64 (bs.length : Int)) ∧ W = w' from by
          have h := offset_any B r k m c v p9.1.closed W HF.out ((HR9.out.below ba).below hb)
          rw [show p9.1.closed.off = bs.length from HOF.out] at h
          exact h))
        clear ba
        go_wp2_with (first
          | (go_at_call 15; (with_reducible refine (num_any 0 _).mono ?_); rintro e _ ⟨rfl, rfl⟩)
          | (go_at_call 15; (with_reducible refine (num_any 8 _).mono ?_); rintro e _ ⟨rfl, rfl⟩)
          | (go_at_call 21; (with_reducible refine C21.out.mono ?_); rintro e wb ⟨rfl, bb⟩; have HBB := Lib.hid bb; have HBW := Lib.hid (HBA.out.trans (bb.mono HBA.out.size)); clear bb)
          | (go_at_call 22; (with_reducible refine (C22.out _ HBB.out).mono ?_); rintro e _ ⟨rfl, rfl⟩)
          | (go_at_call 10; (with_reducible refine (C10.out _).mono ?_); rintro e wz ⟨rfl, bz⟩; have HBZ := Lib.hid (HBW.out.trans (bz.mono HBW.out.size)); clear bz))
        go_ret
        exact ⟨rfl, HBZ.out⟩
    case pos =>
    have hi20 : (i : Int) ≤ 20 := by have := HL.out; omega
    have HLT := Lib.hid hlt
    obtain ⟨b, o, rfl, hbl, hc, hx⟩ := HS.out.2 i (by omega)
    have kx : (wo.alloc (.cells #[] 5)).cell? ⟨b, o + i, none⟩ = some (.slice (f i).A (f i).n (f i).c) := ((HI.out.below.alloc HI.out.below.size _).cell (p := ⟨b, o + i, none⟩) hbl).trans hc
    have HX := Lib.hid (hx.below HI.out.below)
    have H7 := Lib.hid (show (f i).l.length ≤ 700 ∧ (f i).l.length = (f i).n from ⟨H8.out i (by have := HLT.out; omega), hx.len⟩)
    have HCX := Lib.hid (show ∀ W, Below w.heap.size w W → W.cell? ⟨b, o + i, none⟩ = some (.slice (f i).A (f i).n (f i).c) from fun W hb => (hb.cell (p := ⟨b, o + i, none⟩) hbl).trans hc)
    have HX0 := Lib.hid hx
    clear hx hc hbl hbs
    generalize f i = X at *
    go_wp2_with (at_builtin; go_must (refine wpList_app_own (base := wo.heap.size) (n := 0) (m := X.n) (xs := []) (news := X.l.map Go.Proofs.Ytibkhjpjneoabaa.u8) rfl (.tmp 58) (.tmp 62) 28 rfl el22 rfl (own_none00 wo 5) rfl (HX.out.h.alloc _) (u8_one _) (by have := H7.out; unfold maxLen; omega) (by have := H7.out; omega) (by simp) ?_; intro v2 w2 hown hg hat; refine Hid.out ?_))
    refine Lib.hid ?_
    obtain ⟨A2, c2, rfl, -⟩ := own_form hown
    have HO2 := Lib.hid (show w2.ownsRow wo.heap.size 5 1 (.slice A2 X.n c2) X.n (X.l.map Go.Proofs.Ytibkhjpjneoabaa.u8) from by simpa using hown)
    have HB2 := Lib.hid (show Below wo.heap.size wo w2 from below_own ((Below.refl _ wo).alloc (Nat.le_refl _) _) (by simp) (own_none00 wo 5) hg)
    clear hown hg hat kx
    rw [Nat.zero_add]
    have C17 := Lib.hid (feed_any B r k m c v (feedS k m c St.new bs).1 A2 X.n c2 X.l w2 HF.out (HI.out.rd.below HB2.out) (feedS_st2 k m c _ _ (by decide)) (own_RB3 HO2.out) (fun a hA h0 hsf => by
      subst hA
      have := (HO2.out.lt a.block rfl).1
      have := HI.out.rd.lt _ hsf
      omega) (by have := HFL.out; have := HPL.out; have := H7.out; omega) (by have := HFL.out; have := HPL.out; have := H7.out; omega))
    unfold Fed at C17
    go_wp2_with (go_at_call 17; (with_reducible refine C17.out.mono ?_); rintro e w3 ⟨out3, v3, es, rfl, hea, hfr⟩; refine Hid.out ?_)
    refine Lib.hid ?_
    obtain ⟨A3, c3, rfl, -⟩ := own_formS hea.frs.own
    have HE3 := Lib.hid (HI.out.fed HB2.out HO2.out H7.out.2 hea hfr)
    have HSZ := Lib.hid hea.only.size
    clear hea hfr C17
    have hn7 : (X.n : Int) ≤ 700 := by have := H7.out; omega
    go_wp2_with fail
    go_loopw [13] (fun kk wz => ∃ q : Nat, (q : Int) ≤ X.n ∧ kk = .int .i64 q ∧ Hid (ByteRow wz B (.slice A2 X.n c2) X.n) ∧ Hid (w3.grownBy wz (Value.slice A2 X.n c2).ownBlock)) (fun kk _ => X.n - (intOf kk).toNat)
    case atStart => exact ⟨0, by omega, rfl, Lib.hid HE3.out.own, Lib.hid (World.grownBy.refl _ _)⟩
    case round =>
      obtain ⟨q, hq, rfl, HY, HGR⟩ := hrel
      obtain ⟨wy, rfl⟩ : ∃ wy : World, wy = wr := ⟨_, rfl⟩
      have hq0 : (0 : Int) ≤ q := by omega
      by_cases hlq : (q : Int) < X.n
      · obtain ⟨gu, cap, x, hv, hcx, hx0, hx1, hfz⟩ := HY.out.cell (k := q) (by omega)
        cases hv
        go_wp2_with fail
        go_roundw
        case rel => exact ⟨q + 1, by omega, by go_num, Lib.hid (HY.out.store (by omega) (by omega)), Lib.hid (grown_set HGR.out _ _)⟩
        case measure => simp [intOf]; omega
      have HE4 := Lib.hid (HE3.out.turned HGR.out HY.out HSZ.out)
      have HX4 := Lib.hid (HX0.out.below HE4.out.below)
      have kx := HCX.out _ HE4.out.below
      clear HY HGR
      go_wp2_with (at_builtin; go_must (refine wpList_app_own (base := B) (n := bs.length) (m := X.n) (xs := bs.map Go.Proofs.Ytibkhjpjneoabaa.u8) (news := X.l.map Go.Proofs.Ytibkhjpjneoabaa.u8) rfl (.tmp 82) (.tmp 86) 28 rfl el22 rfl HE4.out.all rfl HX4.out.h (u8_one _) (by have := HPL.out; have := H7.out; unfold maxLen; omega) (by have := HPL.out; have := H7.out; omega) (HE4.out.rd.base) ?_; intro v5 w5 hown hg hat; refine Hid.out ?_))
      refine Lib.hid ?_
      obtain ⟨P, hP⟩ : ∃ P, bs.length + X.n = P := ⟨_, rfl⟩
      obtain ⟨A5, c5, rfl, -⟩ := own_form hown
      rw [hP]
      have HPB := Lib.hid (show (bs ++ X.l).length = P ∧ P ≤ 14700 by rw [List.length_append]; have := H7.out; have := HPL.out; omega)
      have HG5 := Lib.hid (show FeI w w5 B r k m c (bs ++ X.l) v3 (.slice A5 P c5) ∧ FrL w5 w2.heap.size (.slice A3 es.length c3) es ∧ ∀ d ∈ es, ∀ j, d.val.ownBlock = some j → v3.ownBlock ≠ some j from HE4.out.grow (by rw [hP] at hown; have e1 := H7.out.2; rw [e1, hP]; exact hown) hg (by rw [hP] at hat; exact hat))
      have HFR := Lib.hid HE4.out.fr
      clear hown hg hat kx hP f0 f1 f2
      have hal := HG5.out.1.all
      rw [HPB.out.1] at hal
      have C20 := Lib.hid (read_ref k m c HF.out A5 P c5 (bs ++ X.l) w5 (own_RB3 hal) (by have := HPB.out; omega))
      unfold RRes FV at C20
      have HFA := Lib.hid (show feedS k m c St.new (bs ++ X.l) = ((feedS k m c (feedS k m c St.new bs).1 X.l).1, (feedS k m c St.new bs).2 ++ (feedS k m c (feedS k m c St.new bs).1 X.l).2) from feedS_app k m c bs X.l St.new)
      have HLO := Lib.hid (feedS_lost k m c (bs ++ X.l) St.new)
      have HOF := Lib.hid (show (feedS k m c St.new (bs ++ X.l)).1.off = P from by
        have h := (feedS_len k m c (bs ++ X.l) St.new).2
        have h1 : St.new.off = 0 := rfl
        have := HPB.out.1
        omega)
      obtain ⟨p9, hp9⟩ : ∃ p9, feedS k m c St.new (bs ++ X.l) = p9 := ⟨_, rfl⟩
      have HP9 := Lib.hid hp9
      rw [hp9] at C20 HLO HOF HFA
      obtain ⟨br9, hbr9⟩ : ∃ br9, decide (p9.1.st = 2) = br9 := ⟨_, rfl⟩
      obtain ⟨md9, hmd9⟩ : ∃ md9 : Int, (if p9.1.begun then (p9.1.at_ : Int) else -1) = md9 := ⟨_, rfl⟩
      rw [hbr9, hmd9] at C20
      have HBR9 := Lib.hid hbr9
      clear hp9 hbr9 hmd9 hal
      obtain ⟨f0, f1, f2⟩ : w5.cell? ⟨w.heap.size, 0, none⟩ = some (.int .i64 k) ∧ w5.cell? ⟨w.heap.size, 1, none⟩ = some (.int .i64 m) ∧ w5.cell? ⟨w.heap.size, 2, none⟩ = some (.int .i64 c) := ⟨HG5.out.1.F.cell 0, HG5.out.1.F.cell 1, HG5.out.1.F.cell 2⟩
      go_wp2_with (go_at_call 20; (with_reducible refine C20.out.mono ?_); rintro e w6 ⟨out6, dw, rfl, hfw, hdw, b6⟩; refine Hid.out ?_)
      refine Lib.hid ?_
      obtain ⟨Aw, cw, hw6, -⟩ := own_formS hfw.own
      subst hw6
      obtain ⟨nw, hnw⟩ : ∃ nw, dw.length = nw := ⟨_, rfl⟩
      rw [hnw] at hfw ⊢
      obtain ⟨w7, hw7⟩ : ∃ w7, w6.alloc (.cells #[.slice Aw nw cw, .bool br9, .int .i64 md9] 49) = w7 := ⟨_, rfl⟩
      obtain ⟨g, hg⟩ : ∃ g, w6.heap.size = g := ⟨_, rfl⟩
      have hb7 : Below w5.heap.size w5 w7 := hw7 ▸ b6.alloc b6.size _
      have hk7 : Blk w7 g 49 #[.slice Aw nw cw, .bool br9, .int .i64 md9] := hg ▸ hw7 ▸ Blk.new w6 49 _
      have HI7 := Lib.hid (HG5.out.1.over hb7)
      have HGT7 := Lib.hid (HG5.out.2.1.below hb7)
      have HFW7 := Lib.hid (hfw.below (hw7 ▸ (Below.refl _ w6).alloc (Nat.le_refl _) _))
      have HK7 := Lib.hid hk7
      have HDW := Lib.hid hdw
      have HNW := Lib.hid (show bf + es.length = nw from by
        have h1 := congrArg List.length HFR.out
        have h2 := congrArg List.length hdw
        have h3 := congrArg (fun p => p.2.length) HFA.out
        have h4 := HBF.out
        simp only [List.length_map, List.length_append] at h1 h2 h3
        omega)
      have HW7 := Lib.hid hw7
      clear hfw hdw b6 hb7 hk7 hw7 f0 f1 f2 C20
      go_upto_region 21 with fail
      rw [HW7.out]
      clear HW7 hg
      obtain ⟨Ax, cx, hsx, hfx, hlx, -⟩ := slice_frl HFW7.out bf (by have := HNW.out; omega)
      have HSX := Lib.hid hsx
      have HS21 := Lib.hid (show FeX g Aw nw cw br9 w7.drew from ⟨HK7.out.cell 0, HK7.out.cell 1⟩)
      have C21 := Lib.hid (show Calls Try.prog 21 #[.slice A3 es.length c3, .slice Ax (nw - bf) cx] w7.drew fun e w' => e = .returned (.bool true) ∧ Below w7.drew.heap.size w7.drew w' from by
        rw [hlx]
        refine same_any A3 Ax c3 cx es (dw.drop bf) w7.drew (HGT7.out.read.1.below (below_drew (Below.refl _ _))) (hfx.below (below_drew (Below.refl _ _))) ?_ (by have := congrArg List.length HFR.out; have h9 := feedS_cnt2 k m c X.l (feedS k m c St.new bs).1; rw [List.length_map] at this; have := H7.out; omega)
        have e2 := HDW.out
        rw [HFA.out] at e2
        rw [List.map_drop, e2, HBF.out, List.drop_left, HFR.out])
      have C19 := Lib.hid (fun W (hb : Below w7.heap.size w7 W) => (show Calls Try.prog 19 #[.pointer (some ⟨r, 0, none⟩)] W fun e w' => e = .returned (.bool br9) ∧ W = w' from by
        have h := broken_any B r k m c v3 _ W HF.out (HI7.out.rd.below hb)
        rw [HP9.out, HLO.out, HBR9.out] at h
        simpa [St.new] using h))
      have C22 := Lib.hid (fun W (hb : Below w7.heap.size w7 W) => (show Calls Try.prog 22 #[.pointer (some ⟨r, 0, none⟩)] W fun e w' => e = .returned (.int .i64 (P : Int)) ∧ W = w' from by
        have h := offset_any B r k m c v3 _ W HF.out (HI7.out.rd.below hb)
        rw [HP9.out, HOF.out] at h
        exact h))
      have HI0 := Lib.hid (And.intro hi0 (And.intro hi20 (And.intro hn7 hlt)))
      clear hsx hfx hlx hi0 hi20 hn7 hlt
      refine wp_region_G (S0 := (FeX g Aw nw cw br9)) (S1 := (FeX g Aw nw cw br9)) (c := 99) (by kernel_rfl) ?_
      have hHeld := HS21.out
      have h01 := (fun (W : World) (h : (FeX g Aw nw cw br9) W) => h)
      refine wpG_takeB (i := 0) (oi := ⟨some 91, _, _, _, _, _⟩) (v := .int .i64 0) rfl (by kernel_rfl) (by kernel_rfl) (by kernel_rfl) (by decide) (fun _ _ _ h => h) h01 rfl hHeld (Or.inl ⟨by rfl, ?_⟩) ?_
      · (intro W9 hSw; obtain ⟨v1, v2⟩ := hSw; have s1 := HSX.out; go_simp; (try (first | with_reducible rfl | rfl | (simp; done))))
      try simp only [Act.put, List.setIfInBounds_toArray, List.set_cons_zero, List.set_cons_succ]
      refine wpG_oneB (i := 1) (o := ⟨some 92, _, _, _, _, _⟩) (by kernel_rfl) rfl rfl (fun K hK => ?_)
      go_simp
      (with_reducible refine (num_any 0 _).mono ?_); rintro e _ ⟨rfl, rfl⟩
      refine hK.out _ _ HS21.out (fun hHeld => ?_)
      clear hK K
      try simp only [Act.put, List.setIfInBounds_toArray, List.set_cons_zero, List.set_cons_succ]
      refine wpG_takeB (i := 2) (oi := ⟨some 93, _, _, _, _, _⟩) (v := .bool false) rfl (by kernel_rfl) (by kernel_rfl) (by kernel_rfl) (by decide) (fun _ _ _ h => h) h01 rfl hHeld (Or.inl ⟨by rfl, ?_⟩) ?_
      · (intro W9 hSw; obtain ⟨v1, v2⟩ := hSw; have s1 := HSX.out; go_simp; (try (first | with_reducible rfl | rfl | (simp; done))))
      try simp only [Act.put, List.setIfInBounds_toArray, List.set_cons_zero, List.set_cons_succ]
      refine wpG_takeB (i := 3) (oi := ⟨some 94, _, _, _, _, _⟩) (v := .bool false) rfl (by kernel_rfl) (by kernel_rfl) (by kernel_rfl) (by decide) (fun _ _ _ h => h) h01 rfl hHeld (Or.inl ⟨by rfl, ?_⟩) ?_
      · (intro W9 hSw; obtain ⟨v1, v2⟩ := hSw; have s1 := HSX.out; go_simp; (try (first | with_reducible rfl | rfl | (simp; done))))
      try simp only [Act.put, List.setIfInBounds_toArray, List.set_cons_zero, List.set_cons_succ]
      refine wpG_takeB (i := 4) (oi := ⟨some 95, _, _, _, _, _⟩) (v := .slice A3 es.length c3) rfl (by kernel_rfl) (by kernel_rfl) (by kernel_rfl) (by decide) (fun _ _ _ h => h) h01 rfl hHeld (Or.inl ⟨by rfl, ?_⟩) ?_
      · (intro W9 hSw; obtain ⟨v1, v2⟩ := hSw; have s1 := HSX.out; go_simp; (try (first | with_reducible rfl | rfl | (simp; done))))
      try simp only [Act.put, List.setIfInBounds_toArray, List.set_cons_zero, List.set_cons_succ]
      refine wpG_takeB (i := 5) (oi := ⟨some 96, _, _, _, _, _⟩) (v := .pointer (some ⟨g, 0, none⟩)) rfl (by kernel_rfl) (by kernel_rfl) (by kernel_rfl) (by decide) (fun _ _ _ h => h) h01 rfl hHeld (Or.inl ⟨by rfl, ?_⟩) ?_
      · (intro W9 hSw; obtain ⟨v1, v2⟩ := hSw; have s1 := HSX.out; go_simp; (try (first | with_reducible rfl | rfl | (simp; done))))
      try simp only [Act.put, List.setIfInBounds_toArray, List.set_cons_zero, List.set_cons_succ]
      refine wpG_takeB (i := 6) (oi := ⟨some 97, _, _, _, _, _⟩) (v := .slice Aw nw cw) rfl (by kernel_rfl) (by kernel_rfl) (by kernel_rfl) (by decide) (fun _ _ _ h => h) h01 rfl hHeld (Or.inl ⟨by rfl, ?_⟩) ?_
      · (intro W9 hSw; obtain ⟨v1, v2⟩ := hSw; have s1 := HSX.out; go_simp; (try (first | with_reducible rfl | rfl | (simp; done))))
      try simp only [Act.put, List.setIfInBounds_toArray, List.set_cons_zero, List.set_cons_succ]
      refine wpG_takeB (i := 7) (oi := ⟨some 98, _, _, _, _, _⟩) (v := .int .i64 (bf : Int)) rfl (by kernel_rfl) (by kernel_rfl) (by kernel_rfl) (by decide) (fun _ _ _ h => h) h01 rfl hHeld (Or.inl ⟨by rfl, ?_⟩) ?_
      · (intro W9 hSw; obtain ⟨v1, v2⟩ := hSw; have s1 := HSX.out; go_simp; (try (first | with_reducible rfl | rfl | (simp; done))))
      try simp only [Act.put, List.setIfInBounds_toArray, List.set_cons_zero, List.set_cons_succ]
      refine wpG_takeB (i := 8) (oi := ⟨some 99, _, _, _, _, _⟩) (v := .slice Ax (nw - bf) cx) rfl (by kernel_rfl) (by kernel_rfl) (by kernel_rfl) (by decide) (fun _ _ _ h => h) h01 rfl hHeld (Or.inl ⟨by rfl, ?_⟩) ?_
      · (intro W9 hSw; obtain ⟨v1, v2⟩ := hSw; have s1 := HSX.out; go_simp; (try (first | with_reducible rfl | rfl | (simp; done))))
      try simp only [Act.put, List.setIfInBounds_toArray, List.set_cons_zero, List.set_cons_succ]
      refine wpG_oneB (i := 9) (o := ⟨some 100, _, _, _, _, _⟩) (by kernel_rfl) rfl rfl (fun K hK => ?_)
      go_simp
      (with_reducible refine C21.out.mono ?_); rintro e w8 ⟨rfl, b8⟩
      have HS8 := Lib.hid (HS21.out.below b8)
      have HB8 := Lib.hid (Below.trans (below_drew (Below.refl w7.heap.size w7)) b8)
      clear b8
      refine hK.out _ _ HS8.out (fun hHeld => ?_)
      clear hK K
      try simp only [Act.put, List.setIfInBounds_toArray, List.set_cons_zero, List.set_cons_succ]
      refine wpG_takeB (i := 10) (oi := ⟨some 101, _, _, _, _, _⟩) (v := .bool false) rfl (by kernel_rfl) (by kernel_rfl) (by kernel_rfl) (by decide) (fun _ _ _ h => h) h01 rfl hHeld (Or.inl ⟨by rfl, ?_⟩) ?_
      · (intro W9 hSw; obtain ⟨v1, v2⟩ := hSw; have s1 := HSX.out; go_simp; (try (first | with_reducible rfl | rfl | (simp; done))))
      try simp only [Act.put, List.setIfInBounds_toArray, List.set_cons_zero, List.set_cons_succ]
      refine wpG_takeB (i := 11) (oi := ⟨some 102, _, _, _, _, _⟩) (v := .bool false) rfl (by kernel_rfl) (by kernel_rfl) (by kernel_rfl) (by decide) (fun _ _ _ h => h) h01 rfl hHeld (Or.inl ⟨by rfl, ?_⟩) ?_
      · (intro W9 hSw; obtain ⟨v1, v2⟩ := hSw; have s1 := HSX.out; go_simp; (try (first | with_reducible rfl | rfl | (simp; done))))
      try simp only [Act.put, List.setIfInBounds_toArray, List.set_cons_zero, List.set_cons_succ]
      refine wpG_takeB (i := 12) (oi := ⟨some 103, _, _, _, _, _⟩) (v := .bool false) rfl (by kernel_rfl) (by kernel_rfl) (by kernel_rfl) (by decide) (fun _ _ _ h => h) h01 rfl hHeld (Or.inl ⟨by rfl, ?_⟩) ?_
      · (intro W9 hSw; obtain ⟨v1, v2⟩ := hSw; have s1 := HSX.out; go_simp; (try (first | with_reducible rfl | rfl | (simp; done))))
      try simp only [Act.put, List.setIfInBounds_toArray, List.set_cons_zero, List.set_cons_succ]
      refine wpG_takeB (i := 13) (oi := ⟨some 104, _, _, _, _, _⟩) (v := .pointer (some ⟨r, 0, none⟩)) rfl (by kernel_rfl) (by kernel_rfl) (by kernel_rfl) (by decide) (fun _ _ _ h => h) h01 rfl hHeld (Or.inl ⟨by rfl, ?_⟩) ?_
      · (intro W9 hSw; obtain ⟨v1, v2⟩ := hSw; have s1 := HSX.out; go_simp; (try (first | with_reducible rfl | rfl | (simp; done))))
      try simp only [Act.put, List.setIfInBounds_toArray, List.set_cons_zero, List.set_cons_succ]
      refine wpG_takeB (i := 15) (oi := ⟨some 106, _, _, _, _, _⟩) (v := .pointer (some ⟨g, 1, none⟩)) rfl (by kernel_rfl) (by kernel_rfl) (by kernel_rfl) (by decide) (fun _ _ _ h => h) h01 rfl hHeld (Or.inl ⟨by rfl, ?_⟩) ?_
      · (intro W9 hSw; obtain ⟨v1, v2⟩ := hSw; have s1 := HSX.out; go_simp; (try (first | with_reducible rfl | rfl | (simp; done))))
      try simp only [Act.put, List.setIfInBounds_toArray, List.set_cons_zero, List.set_cons_succ]
      refine wpG_takeB (i := 16) (oi := ⟨some 107, _, _, _, _, _⟩) (v := .bool br9) rfl (by kernel_rfl) (by kernel_rfl) (by kernel_rfl) (by decide) (fun _ _ _ h => h) h01 rfl hHeld (Or.inl ⟨by rfl, ?_⟩) ?_
      · (intro W9 hSw; obtain ⟨v1, v2⟩ := hSw; have s1 := HSX.out; go_simp; (try (first | with_reducible rfl | rfl | (simp; done))))
      try simp only [Act.put, List.setIfInBounds_toArray, List.set_cons_zero, List.set_cons_succ]
      refine wpG_oneB (i := 14) (o := ⟨some 105, _, _, _, _, _⟩) (by kernel_rfl) rfl rfl (fun K hK => ?_)
      go_simp
      (with_reducible refine (C19.out _ HB8.out).mono ?_); rintro e _ ⟨rfl, rfl⟩
      refine hK.out _ _ HS8.out (fun hHeld => ?_)
      clear hK K
      try simp only [Act.put, List.setIfInBounds_toArray, List.set_cons_zero, List.set_cons_succ]
      refine wpG_takeB (i := 17) (oi := ⟨some 108, _, _, _, _, _⟩) (v := .bool false) rfl (by kernel_rfl) (by kernel_rfl) (by kernel_rfl) (by decide) (fun _ _ _ h => h) h01 rfl hHeld (Or.inl ⟨by rfl, ?_⟩) ?_
      · (intro W9 hSw; obtain ⟨v1, v2⟩ := hSw; have s1 := HSX.out; go_simp; (try (first | with_reducible rfl | rfl | (simp; done))))
      try simp only [Act.put, List.setIfInBounds_toArray, List.set_cons_zero, List.set_cons_succ]
      refine wpG_takeB (i := 18) (oi := ⟨some 109, _, _, _, _, _⟩) (v := .bool false) rfl (by kernel_rfl) (by kernel_rfl) (by kernel_rfl) (by decide) (fun _ _ _ h => h) h01 rfl hHeld (Or.inl ⟨by rfl, ?_⟩) ?_
      · (intro W9 hSw; obtain ⟨v1, v2⟩ := hSw; have s1 := HSX.out; go_simp; (try (first | with_reducible rfl | rfl | (simp; done))))
      try simp only [Act.put, List.setIfInBounds_toArray, List.set_cons_zero, List.set_cons_succ]
      refine wpG_takeB (i := 19) (oi := ⟨some 110, _, _, _, _, _⟩) (v := .bool false) rfl (by kernel_rfl) (by kernel_rfl) (by kernel_rfl) (by decide) (fun _ _ _ h => h) h01 rfl hHeld (Or.inl ⟨by rfl, ?_⟩) ?_
      · (intro W9 hSw; obtain ⟨v1, v2⟩ := hSw; have s1 := HSX.out; go_simp; (try (first | with_reducible rfl | rfl | (simp; done))))
      try simp only [Act.put, List.setIfInBounds_toArray, List.set_cons_zero, List.set_cons_succ]
      refine wpG_takeB (i := 20) (oi := ⟨some 111, _, _, _, _, _⟩) (v := .pointer (some ⟨r, 0, none⟩)) rfl (by kernel_rfl) (by kernel_rfl) (by kernel_rfl) (by decide) (fun _ _ _ h => h) h01 rfl hHeld (Or.inl ⟨by rfl, ?_⟩) ?_
      · (intro W9 hSw; obtain ⟨v1, v2⟩ := hSw; have s1 := HSX.out; go_simp; (try (first | with_reducible rfl | rfl | (simp; done))))
      try simp only [Act.put, List.setIfInBounds_toArray, List.set_cons_zero, List.set_cons_succ]
      refine wpG_takeB (i := 22) (oi := ⟨some 113, _, _, _, _, _⟩) (v := .slice A5 P c5) rfl (by kernel_rfl) (by kernel_rfl) (by kernel_rfl) (by decide) (fun _ _ _ h => h) h01 rfl hHeld (Or.inl ⟨by rfl, ?_⟩) ?_
      · (intro W9 hSw; obtain ⟨v1, v2⟩ := hSw; have s1 := HSX.out; go_simp; (try (first | with_reducible rfl | rfl | (simp; done))))
      try simp only [Act.put, List.setIfInBounds_toArray, List.set_cons_zero, List.set_cons_succ]
      refine wpG_takeB (i := 23) (oi := ⟨some 114, _, _, _, _, _⟩) (v := .int .i64 (P : Int)) rfl (by kernel_rfl) (by kernel_rfl) (by kernel_rfl) (by decide) (fun _ _ _ h => h) h01 rfl hHeld (Or.inl ⟨by rfl, ?_⟩) ?_
      · (intro W9 hSw; obtain ⟨v1, v2⟩ := hSw; have s1 := HSX.out; go_simp; (try (first | with_reducible rfl | rfl | (simp; done))))
      try simp only [Act.put, List.setIfInBounds_toArray, List.set_cons_zero, List.set_cons_succ]
      refine wpG_oneB (i := 21) (o := ⟨some 112, _, _, _, _, _⟩) (by kernel_rfl) rfl rfl (fun K hK => ?_)
      go_simp
      (with_reducible refine (C22.out _ HB8.out).mono ?_); rintro e _ ⟨rfl, rfl⟩
      refine hK.out _ _ HS8.out (fun hHeld => ?_)
      clear hK K
      try simp only [Act.put, List.setIfInBounds_toArray, List.set_cons_zero, List.set_cons_succ]
      refine wpG_takeB (i := 24) (oi := ⟨some 115, _, _, _, _, _⟩) (v := .bool false) rfl (by kernel_rfl) (by kernel_rfl) (by kernel_rfl) (by decide) (fun _ _ _ h => h) h01 rfl hHeld (Or.inl ⟨by rfl, ?_⟩) ?_
      · (intro W9 hSw; obtain ⟨v1, v2⟩ := hSw; have s1 := HSX.out; go_simp; (try (first | with_reducible rfl | rfl | (simp; done))))
      try simp only [Act.put, List.setIfInBounds_toArray, List.set_cons_zero, List.set_cons_succ]
      refine wpG_takeB (i := 25) (oi := ⟨some 116, _, _, _, _, _⟩) (v := .bool false) rfl (by kernel_rfl) (by kernel_rfl) (by kernel_rfl) (by decide) (fun _ _ _ h => h) h01 rfl hHeld (Or.inl ⟨by rfl, ?_⟩) ?_
      · (intro W9 hSw; obtain ⟨v1, v2⟩ := hSw; have s1 := HSX.out; go_simp; (try (first | with_reducible rfl | rfl | (simp; done))))
      try simp only [Act.put, List.setIfInBounds_toArray, List.set_cons_zero, List.set_cons_succ]
      refine wpG_done (by kernel_rfl) ?_ _
      clear hHeld h01
      obtain ⟨hi0, hi20, hn7, hlt⟩ := HI0.out
      obtain ⟨kq, -⟩ := HS8.out
      go_wp2_with fail
      go_roundw
      case rel => exact ⟨i + 1, v3, .slice A5 P c5, nw, rfl, rfl, by go_num, Lib.hid (by have := HLT.out; omega), Lib.hid (by rw [HPS.out, HP9.out, ← HDW.out, List.length_map, hnw]), Lib.hid (by rw [HPS.out]; exact HI7.out.over HB8.out)⟩
      case measure => have := HLT.out; simp [intOf]; omega
end Go.Proofs.Ytibkhjpjneoabaa

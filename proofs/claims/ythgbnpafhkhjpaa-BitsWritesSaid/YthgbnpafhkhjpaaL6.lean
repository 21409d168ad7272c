/- The walk of BitsWrites. -/
import Derived.Test.YthgbnpafhkhjpaaRw1
import Derived.Test.YthgbnpafhkhjpaaCp
import Derived.Test.YthgbnpafhkhjpaaFr
namespace Go.Proofs.Ythgbnpafhkhjpaa
open Go.RowKit
set_option linter.unusedVariables false
set_option linter.unusedSimpArgs false

/-- A row that lies apart from a writer stays where the writer is written to. -/
theorem own_apartW {W W' : World} {B B' gw n sz : Nat} {e : TypeId} {va dd : Value} {bs : List Bool} {xs : List Value} (hd : W.ownsRow B' e sz dd n xs) (hw : WS W B gw 63 [.bool true] va bs) (ht : Two gw va W W') (h1 : e ≠ 63) (h2 : e ≠ 5) : W'.ownsRow B' e sz dd n xs :=
  own_keeps hd fun k hk => ht.block k (own_lt hd k hk) (fun e => own_not_blk hd hw.blk h1 (e ▸ hk)) (own_ne hd hw.own h2 k hk)
theorem WS.grownR {w w' : World} {B g : Nat} {v : Value} {bs : List Bool} {row : Option Nat} (h : WS w B g 63 [.bool true] v bs) (hg : w.grownBy w' row) (h1 : some g ≠ row) (h2 : ∀ k, v.ownBlock = some k → some k ≠ row) : WS w' B g 63 [.bool true] v bs :=
  ⟨h.blk.grown hg h1, own_keeps h.own fun k hk => hg.block k (own_lt h.own k hk) (h2 k hk), Nat.le_trans h.base hg.size⟩
theorem WS.over {w w' : World} {B g : Nat} {v : Value} {bs : List Bool} (h : WS w B g 63 [.bool true] v bs) (hb : Below w.heap.size w w') : WS w' B g 63 [.bool true] v bs := h.below hb (Nat.le_refl _)
theorem WS.weak {w : World} {B B' g : Nat} {v : Value} {bs : List Bool} (h : WS w B g 63 [.bool true] v bs) (hB : B' ≤ B) : WS w B' g 63 [.bool true] v bs := ⟨h.blk, own_base h.own hB, Nat.le_trans hB h.base⟩
/-- The copy, made or not. -/
structure CpW (B : Nat) (W : World) (gw : Nat) (va : Value) (g2 : Nat) (v2 : Value) (be : List Bool) (Ae : Option Addr) (ce : Nat) : Prop where
  ne : g2 ≠ gw
  ge : B ≤ g2
  ws : WS W B g2 63 [.bool true] v2 be
  row : W.ownsRow B 4 1 (.slice Ae be.length ce) be.length (be.map Value.bool)
  sep : ∀ k, v2.ownBlock = some k → va.ownBlock ≠ some k
  le : be.length ≤ 300000
def CopyW (B : Nat) (W : World) (gw : Nat) (va : Value) (i cp : Nat) (ov ev : Value) : Prop :=
  (i ≤ cp ∧ ov = .pointer none ∧ ev = .slice none 0 0) ∨ (cp < i ∧ ∃ (g2 : Nat) (v2 : Value) (be : List Bool) (Ae : Option Addr) (ce : Nat), ov = .pointer (some ⟨g2, 0, none⟩) ∧ ev = .slice Ae be.length ce ∧ CpW B W gw va g2 v2 be Ae ce)
theorem CpW.two {B gw g2 ce : Nat} {W W' : World} {va va' v2 : Value} {be bs : List Bool} {Ae : Option Addr} (h : CpW B W gw va g2 v2 be Ae ce) (hw : WS W B gw 63 [.bool true] va bs) (ht : Two gw va W W') (hh : Hat va va' W) : CpW B W' gw va' g2 v2 be Ae ce :=
  ⟨h.ne, h.ge, h.ws.two ht h.ne (own_not_blk hw.own h.ws.blk (by decide)) (own_not_blk h.ws.own hw.blk (by decide)) h.sep, own_apartW h.row hw ht (by decide) (by decide), fun k h2 h1 => by
    rcases hh with hh | hh
    · exact h.sep k h2 (hh ▸ h1)
    · have := hh k h1
      have := own_lt h.ws.own k h2
      omega, h.le⟩
theorem CopyW.two {B gw i cp : Nat} {W W' : World} {va va' ov ev : Value} {bs : List Bool} (h : CopyW B W gw va i cp ov ev) (hw : WS W B gw 63 [.bool true] va bs) (ht : Two gw va W W') (hh : Hat va va' W) : CopyW B W' gw va' i cp ov ev := by
  rcases h with h | ⟨h1, g2, v2, be, Ae, ce, h2, h3, h4⟩
  · exact .inl h
  · exact .inr ⟨h1, g2, v2, be, Ae, ce, h2, h3, h4.two hw ht hh⟩
theorem CopyW.next {B gw i cp : Nat} {W : World} {va ov ev : Value} (h : CopyW B W gw va i cp ov ev) (hne : i ≠ cp) : CopyW B W gw va (i + 1) cp ov ev := by
  rcases h with ⟨h1, h2⟩ | ⟨h1, h2⟩
  · exact .inl ⟨by omega, h2⟩
  · exact .inr ⟨by omega, h2⟩
theorem WS.drew' {w : World} {B g : Nat} {v : Value} {bs : List Bool} (h : WS w B g 63 [.bool true] v bs) : WS w.drew B g 63 [.bool true] v bs := ⟨h.blk.drew, own_drew h.own, h.base⟩
theorem Hat.low {v v' : Value} {w w1 : World} (h : Hat v v' w1) (hs : w.heap.size ≤ w1.heap.size) : Hat v v' w := by
  rcases h with h | h
  · exact .inl h
  · exact .inr fun k hk => Nat.le_trans hs (h k hk)

set_option maxRecDepth 100000 in
set_option maxHeartbeats 16000000 in
theorem writes_any (A : Option Addr) (n c : Nat) (f : Nat → ActV) (cp : Int) (w : World) (hs : ActS w A n f) (hcp0 : 0 ≤ cp) (hcp1 : cp < 256) :
    Calls Try.prog 6 #[.slice A n c, .int .u8 cp] w fun e w' => e = .returned (.bool true) ∧ Below w.heap.size w w' := by
  have CF := Lib.hid (fits_any A n c f w hs)
  have HS := Lib.hid hs
  have KN := Lib.hid (known_over w)
  clear hs
  go_enter Try.func6, Try.ntmps6
  go_wp2_with fail
  (with_reducible refine CF.out.mono ?_); rintro e w1 ⟨⟨t, rfl, ht⟩, rfl⟩
  clear CF
  cases t
  · clear ht
    go_wp2_with (go_at_call 9; (with_reducible refine (KN.out _ (Below.refl _ _)).mono ?_); rintro e w9 ⟨rfl, b9⟩; have B9 := Lib.hid b9; clear b9)
    go_ret
    exact ⟨rfl, B9.out⟩
  obtain ⟨hn60, hm⟩ := ht rfl
  have HM := Lib.hid hm
  have hn60' : (n : Int) ≤ 60 := by omega
  obtain ⟨cq, rfl⟩ := Int.eq_ofNat_of_zero_le hcp0
  clear ht hm hn60
  go_wp2_with (go_at_call 10; (with_reducible refine (newWriter_any _).mono ?_); rintro e w1 ⟨rfl, s1, b1⟩; have HW0 := Lib.hid s1; have HB0 := Lib.hid b1; clear s1 b1)
  obtain ⟨gw, hgw⟩ : ∃ g, w.heap.size = g := ⟨_, rfl⟩
  have HGW := Lib.hid (show w.heap.size ≤ gw from Nat.le_of_eq hgw)
  have HW1 := Lib.hid (show WS w1 w.heap.size gw 63 [.bool true] (.slice none 0 0) [] from hgw ▸ HW0.out)
  rw [hgw]
  clear hgw HW0
  go_loopw [6, 7, 8, 9] (fun oo aa ee ii wr => ∃ (i : Nat) (bs : List Bool) (va : Value) (Aa : Option Addr) (ca m : Nat), (i : Int) ≤ n ∧ ii = .int .i64 i ∧ aa = .slice Aa m ca ∧ m ≤ 4096 * i ∧ Hid (WS wr w.heap.size gw 63 [.bool true] va bs) ∧ Hid (wr.ownsRow w.heap.size 4 1 (.slice Aa m ca) m (bs.map Value.bool)) ∧ Hid (CopyW w.heap.size wr gw va i cq oo ee) ∧ Hid (Below w.heap.size w wr)) (fun _ _ _ ii _ => n - (intOf ii).toNat)
  case atStart => exact ⟨0, [], .slice none 0 0, none, 0, 0, by omega, rfl, rfl, by omega, HW1, Lib.hid (World.ownsRow_nil _ _ 4 1), Lib.hid (.inl ⟨by omega, rfl, rfl⟩), HB0⟩
  clear HW1 HB0
  case round =>
    obtain ⟨i, bs, va, Aa, ca, m, hi, rfl, rfl, hm4, HW, HA, HC, HB⟩ := hrel
    have hi0 : (0 : Int) ≤ i := by omega
    obtain ⟨wo, rfl⟩ : ∃ wo : World, wo = wr := ⟨_, rfl⟩
    by_cases hlt : (i : Int) < n
    · obtain ⟨b, o, rfl, hbl, hcl, hX⟩ := HS.out.2 i (by omega)
      have hm50 := HM.out i (by omega)
      generalize f i = X at *
      have hbl0 := bools_len HA.out
      by_cases hic : i = cq
      · subst hic
        have C29 := Lib.hid (wcopy_some _ gw va bs wo HW.out (by omega))
        clear HC
        go_wp2_with (go_at_call 29; (with_reducible refine C29.out.mono ?_); rintro e wc ⟨g', v', rfl, hg', sc, bc⟩; refine Hid.out ?_)
        refine Lib.hid ?_
        have HA2 := Lib.hid (own_keeps HA.out fun k hk => bc.block k (own_lt HA.out k hk))
        have HC2 := Lib.hid (show CopyW w.heap.size wc gw va (i + 1) i (.pointer (some ⟨g', 0, none⟩)) (.slice Aa m ca) from .inr ⟨by omega, g', v', bs, Aa, ca, rfl, by rw [hbl0], by have := HW.out.blk.lt; omega, Nat.le_trans HB.out.size hg', sc.weak HB.out.size, by rw [hbl0]; exact HA2.out, fun k hk e => by have := own_lt HW.out.own k e; have := (sc.own.lt k hk).1; omega, by omega⟩)
        have HW2 := Lib.hid (HW.out.over bc)
        have HB2 := Lib.hid (HB.out.trans (bc.mono HB.out.size))
        clear sc bc HW HA HB C29 hg'
        obtain ⟨k1, k2, k3, k4⟩ := hcl.keepc HB2.out hbl
        have HHX := Lib.hid (hX.h.keep HB2.out)
        have HX := Lib.hid hX
        have HCL := Lib.hid hcl
        have HBL0 := Lib.hid hbl0
        have hxm : (X.m : Int) ≤ 50 := by omega
        have hblc : b < wc.heap.size := Nat.lt_of_lt_of_le hbl HB2.out.size
        clear hX hcl hbl0
        go_wp2_with (first
          | (at_builtin; (refine wpList_app_own (base := wc.heap.size) (n := 0) (m := X.m) (xs := []) (news := X.l.map Ythgbnpafhkhjpaa.u8) rfl (.tmp 36) (.tmp 41) 27 rfl el27 rfl (own_none00 wc 5) rfl (HHX.out.alloc _) (u8_one _) (by unfold maxLen; omega) (by omega) (by simp) ?_; intro v1 w2 hown hg hat; rw [Nat.zero_add, List.nil_append] at hown; obtain ⟨A1, c1, rfl, -, -, h01, -⟩ := own_form hown; have HN1 := Lib.hid (fun h => (h01 h).2); have HO1 := Lib.hid hown; have HD1 := Lib.hid (below_own ((Below.refl wc.heap.size wc).alloc (Nat.le_refl _) _) (by simp) (own_none00 wc 5) hg); clear hown hg hat h01 k1 k2 k3 k4; obtain ⟨k1, k2, k3, k4⟩ := HCL.out.keepc (HB2.out.trans (HD1.out.mono HB2.out.size)) hbl; refine Hid.out ?_)))
        refine Lib.hid ?_
        have HD3 := Lib.hid (show Below wc.heap.size wc (w2.alloc (.cells #[.int .u8 X.k, .int .i64 X.v, .int .i64 X.n, .slice A1 X.m c1] 41)) from HD1.out.alloc HD1.out.size _)
        have hW3 := HW2.out.over HD3.out
        have hXG : ActG (w2.alloc (.cells #[.int .u8 X.k, .int .i64 X.v, .int .i64 X.n, .slice A1 X.m c1] 41)) { X with A := A1, c := c1 } := ⟨HX.out.k0, HX.out.k1, HX.out.v, HX.out.n, HX.out.l, (holds_own HO1.out).alloc _, fun b e h0 => by have := own_lt HO1.out b.block (by rw [show A1 = some b from e]; rfl); simp; omega, HN1.out⟩
        have h19 := lwrite_ws w gw va bs { X with A := A1, c := c1 } _ hW3 (by have := HBL0.out; omega) hXG (show X.m ≤ 1000000 by omega) (fun b e h0 => by
          have h1 := (HO1.out.lt b.block (by rw [show A1 = some b from e]; rfl)).1
          have h2 := HW2.out.blk.lt
          exact ⟨by omega, fun e2 => by have := own_lt HW2.out.own _ e2; omega⟩)
        obtain ⟨E, hE⟩ : ∃ E, wE bs X = E := ⟨_, rfl⟩
        obtain ⟨bs', hbs'⟩ : ∃ b, wN bs X = b := ⟨_, rfl⟩
        have hlen := wN_le (bs := bs) HX.out.k0 HX.out.l hm50
        rw [show wE bs { X with A := A1, c := c1 } = E from hE, show wN bs { X with A := A1, c := c1 } = bs' from hbs'] at h19
        dsimp only at h19
        rw [hbs'] at hlen
        have hlen2 : bs'.length ≤ 4096 * (i + 1) := by have := HBL0.out; omega
        have hlen3 : (bs'.length : Int) ≤ 300000 := by omega
        have C19 := Lib.hid h19
        have HW3 := Lib.hid hW3
        have HE := Lib.hid hE
        have HBS := Lib.hid hbs'
        have HM4 := Lib.hid (show m ≤ 300000 by omega)
        clear h19 hW3 hXG hE hbs' hlen
        go_wp2_with (first
          | (go_at_call 19; (with_reducible refine C19.out.mono ?_); rintro e w4 ⟨x, rfl, rfl, va2, s4, t4, h4⟩; have HA4 := Lib.hid (own_apartW (own_keeps HA2.out fun k hk => HD3.out.block k (own_lt HA2.out k hk)) HW3.out t4 (by decide) (by decide)); have T4 := Lib.hid (Two.of_below HD3.out t4); have HT4 := Lib.hid (h4.low HD3.out.size); have HO4 := Lib.hid (own_keeps (own_alloc HO1.out) fun k hk => t4.block k (own_lt (own_alloc HO1.out) k hk) (fun e => by have := (HO1.out.lt k hk).1; have := HW2.out.blk.lt; omega) (fun e => by have := (HO1.out.lt k hk).1; have := own_lt HW2.out.own k e; omega)); have HSP := Lib.hid (show ∀ k, va2.ownBlock = some k → (Value.slice A1 X.m c1).ownBlock ≠ some k from fun k hk e => by
            rcases h4 with h4 | h4
            · have := (HO1.out.lt k e).1; have := own_lt HW2.out.own k (h4 ▸ hk); omega
            · have h5 := h4 k hk; have := own_lt HO1.out k e; simp at h5; omega); have B4 := Lib.hid (t4.to_below (HB2.out.trans (HD3.out.mono HB2.out.size)) (Nat.le_trans HB2.out.size HD3.out.size) HGW.out HW2.out.vb); have S4 := Lib.hid s4; clear s4 t4 h4 k1 k2 k3 k4; obtain ⟨k1, k2, k3, k4⟩ := HCL.out.keepc B4.out hbl; have h30 := written_any Aa m ca w.heap.size bs X w4 HA4.out B4.out.size HM4.out (HX.out.below B4.out) (by omega); rw [HE.out, HBS.out] at h30; have C30 := Lib.hid h30; clear h30)
          | (go_at_call 30; (with_reducible refine C30.out.mono ?_); rintro e w5 ⟨A5, c5, rfl, ho5, b5⟩; have HA5 := Lib.hid ho5; have S5 := Lib.hid (S4.out.over b5); have D5 := Lib.hid b5; have HO5 := Lib.hid (own_keeps HO4.out fun k hk => b5.block k (own_lt HO4.out k hk)); have HY5 := Lib.hid (ByteRow.of HO5.out); clear ho5 b5))
        clear k1 k2 k3 k4 C19 C30
        go_loopw [15] (fun kk wr => ∃ q : Nat, (q : Int) ≤ X.m ∧ kk = .int .i64 q ∧ Hid (ByteRow wr wc.heap.size (.slice A1 X.m c1) X.m) ∧ Hid (w5.grownBy wr (Value.slice A1 X.m c1).ownBlock)) (fun kk _ => X.m - (intOf kk).toNat)
        case atStart => exact ⟨0, by omega, rfl, HY5, Lib.hid (World.grownBy.refl _ _)⟩
        case round =>
          obtain ⟨q, hq, rfl, HY, HGR⟩ := hrel
          have hq0 : (0 : Int) ≤ q := by omega
          by_cases hlt : (q : Int) < X.m
          · obtain ⟨gu, cap, x, hv, hc, hx0, hx1, hf⟩ := HY.out.cell (k := q) (by omega)
            cases hv
            go_wp2_with fail
            go_roundw
            case rel => exact ⟨q + 1, by omega, by go_num, Lib.hid (HY.out.store (by omega) (by omega)), Lib.hid (grown_set HGR.out _ _)⟩
            case measure => simp [intOf]; omega
          · obtain ⟨w6, rfl⟩ : ∃ w6 : World, w6 = wr := ⟨_, rfl⟩
            have HT5 := Lib.hid (Nat.le_trans T4.out.size D5.out.size)
            have D6 := Lib.hid (HY5.out.below HT5.out HGR.out)
            have S6 := Lib.hid (S5.out.grownR HGR.out (fun e => by have := (HO1.out.lt gw e.symm).1; have := HW2.out.blk.lt; omega) (fun k hk e => HSP.out k hk e.symm))
            have HA6 := Lib.hid (own_keeps HA5.out fun k hk => HGR.out.block k (own_lt HA5.out k hk) (fun e => own_ne HA5.out HO5.out (fun e => by cases e) k hk e.symm))
            have h12 := out_some _ gw va2 bs' w6 S6.out (by omega)
            obtain ⟨no, hno⟩ : ∃ k, (bs'.length + 7) / 8 = k := ⟨_, rfl⟩
            rw [hno] at h12
            have HNO := Lib.hid hno
            have HPN := Lib.hid (show (pack bs').length = no by rw [pack_length, hno])
            have hno2 : (no : Int) ≤ 300000 := by omega
            have C12 := Lib.hid h12
            clear h12 hno HGR HY hq0 hq
            go_wp2_with (go_at_call 12; (with_reducible refine C12.out.mono ?_); rintro e w7 ⟨v7, rfl, ho7, b7⟩; refine Hid.out ?_)
            refine Lib.hid ?_
            obtain ⟨Ao, co, rfl⟩ := own_sl ho7
            have HA7 := Lib.hid (own_keeps HA6.out fun k hk => b7.block k (own_lt HA6.out k hk))
            have HW7 := Lib.hid (S6.out.over b7)
            have HO7 := Lib.hid (holds_own ho7)
            have HR7 := Lib.hid ho7
            have D7 := Lib.hid b7
            obtain ⟨Az, cz, ez, rb⟩ := RB.own HA7.out
            cases ez
            have h31 := rbytes_any A5 bs'.length c5 bs' w7.drew ⟨rb.h.drew, rb.mc, rb.cm, rb.z⟩ (by omega)
            rw [HNO.out] at h31
            have C31 := Lib.hid h31
            clear ho7 b7 rb h31 hlt
            go_wp2_with fail
            refine wp_region_G (S0 := (fun (w' : World) => Holds w' Ao no ((pack bs').map Ythgbnpafhkhjpaa.u8))) (S1 := (fun (w' : World) => Holds w' Ao no ((pack bs').map Ythgbnpafhkhjpaa.u8))) (c := 14) (by kernel_rfl) ?_
            have hHeld := HO7.out.drew
            have h01 := (fun (w' : World) (h : Holds w' Ao no ((pack bs').map Ythgbnpafhkhjpaa.u8)) => h)
            refine wpG_takeA (i := 0) (oi := ⟨some 76, _, _, _, _, _⟩) (v := ?_) rfl (by kernel_rfl) (by kernel_rfl) (by kernel_rfl) (by decide) (fun _ _ _ h => h) h01 rfl hHeld (Or.inl ⟨by rfl, ?_⟩) ?_
            rotate_left
            · (intro w hSw; (try dsimp only at hSw); go_simp; (try with_reducible rfl))
            try simp only [Act.put, List.setIfInBounds_toArray, List.set_cons_zero, List.set_cons_succ]
            refine wpG_takeA (i := 1) (oi := ⟨some 77, _, _, _, _, _⟩) (v := ?_) rfl (by kernel_rfl) (by kernel_rfl) (by kernel_rfl) (by decide) (fun _ _ _ h => h) h01 rfl hHeld (Or.inl ⟨by rfl, ?_⟩) ?_
            rotate_left
            · (intro w hSw; (try dsimp only at hSw); go_simp; (try with_reducible rfl))
            try simp only [Act.put, List.setIfInBounds_toArray, List.set_cons_zero, List.set_cons_succ]
            refine wpG_takeA (i := 2) (oi := ⟨some 78, _, _, _, _, _⟩) (v := ?_) rfl (by kernel_rfl) (by kernel_rfl) (by kernel_rfl) (by decide) (fun _ _ _ h => h) h01 rfl hHeld (Or.inl ⟨by rfl, ?_⟩) ?_
            rotate_left
            · (intro w hSw; (try dsimp only at hSw); go_simp; (try with_reducible rfl))
            try simp only [Act.put, List.setIfInBounds_toArray, List.set_cons_zero, List.set_cons_succ]
            refine wpG_takeA (i := 3) (oi := ⟨some 79, _, _, _, _, _⟩) (v := ?_) rfl (by kernel_rfl) (by kernel_rfl) (by kernel_rfl) (by decide) (fun _ _ _ h => h) h01 rfl hHeld (Or.inl ⟨by rfl, ?_⟩) ?_
            rotate_left
            · (intro w hSw; (try dsimp only at hSw); go_simp; (try with_reducible rfl))
            try simp only [Act.put, List.setIfInBounds_toArray, List.set_cons_zero, List.set_cons_succ]
            refine wpG_takeA (i := 4) (oi := ⟨some 80, _, _, _, _, _⟩) (v := ?_) rfl (by kernel_rfl) (by kernel_rfl) (by kernel_rfl) (by decide) (fun _ _ _ h => h) h01 rfl hHeld (Or.inl ⟨by rfl, ?_⟩) ?_
            rotate_left
            · (intro w hSw; (try dsimp only at hSw); go_simp; (try with_reducible rfl))
            try simp only [Act.put, List.setIfInBounds_toArray, List.set_cons_zero, List.set_cons_succ]
            refine wpG_takeA (i := 6) (oi := ⟨some 82, _, _, _, _, _⟩) (v := ?_) rfl (by kernel_rfl) (by kernel_rfl) (by kernel_rfl) (by decide) (fun _ _ _ h => h) h01 rfl hHeld (Or.inl ⟨by rfl, ?_⟩) ?_
            rotate_left
            · (intro w hSw; (try dsimp only at hSw); go_simp; (try with_reducible rfl))
            try simp only [Act.put, List.setIfInBounds_toArray, List.set_cons_zero, List.set_cons_succ]
            refine wpG_takeA (i := 7) (oi := ⟨some 83, _, _, _, _, _⟩) (v := ?_) rfl (by kernel_rfl) (by kernel_rfl) (by kernel_rfl) (by decide) (fun _ _ _ h => h) h01 rfl hHeld (Or.inl ⟨by rfl, ?_⟩) ?_
            rotate_left
            · (intro w hSw; (try dsimp only at hSw); go_simp; (try with_reducible rfl))
            try simp only [Act.put, List.setIfInBounds_toArray, List.set_cons_zero, List.set_cons_succ]
            refine wpG_oneA (i := 5) (o := ⟨some 81, _, _, _, _, _⟩) (by kernel_rfl) rfl rfl (fun K hK => ?_)
            go_simp
            (with_reducible refine (wlen_some gw va2 bs'.length _ HW7.out.blk.drew).mono ?_); rintro e w9 ⟨rfl, rfl⟩
            refine hK.out _ _ hHeld (fun hHeld => ?_)
            clear hK K
            try simp only [Act.put, List.setIfInBounds_toArray, List.set_cons_zero, List.set_cons_succ]
            refine wpG_takeA (i := 8) (oi := ⟨some 84, _, _, _, _, _⟩) (v := ?_) rfl (by kernel_rfl) (by kernel_rfl) (by kernel_rfl) (by decide) (fun _ _ _ h => h) h01 rfl hHeld (Or.inl ⟨by rfl, ?_⟩) ?_
            rotate_left
            · (intro w hSw; (try dsimp only at hSw); go_simp; (try with_reducible rfl))
            try simp only [Act.put, List.setIfInBounds_toArray, List.set_cons_zero, List.set_cons_succ]
            refine wpG_takeA (i := 9) (oi := ⟨some 85, _, _, _, _, _⟩) (v := ?_) rfl (by kernel_rfl) (by kernel_rfl) (by kernel_rfl) (by decide) (fun _ _ _ h => h) h01 rfl hHeld (Or.inl ⟨by rfl, ?_⟩) ?_
            rotate_left
            · (intro w hSw; (try dsimp only at hSw); go_simp; (try with_reducible rfl))
            try simp only [Act.put, List.setIfInBounds_toArray, List.set_cons_zero, List.set_cons_succ]
            refine wpG_takeA (i := 10) (oi := ⟨some 86, _, _, _, _, _⟩) (v := ?_) rfl (by kernel_rfl) (by kernel_rfl) (by kernel_rfl) (by decide) (fun _ _ _ h => h) h01 rfl hHeld (Or.inl ⟨by rfl, ?_⟩) ?_
            rotate_left
            · (intro w hSw; (try dsimp only at hSw); go_simp; (try with_reducible rfl))
            try simp only [Act.put, List.setIfInBounds_toArray, List.set_cons_zero, List.set_cons_succ]
            refine wpG_takeA (i := 11) (oi := ⟨some 87, _, _, _, _, _⟩) (v := ?_) rfl (by kernel_rfl) (by kernel_rfl) (by kernel_rfl) (by decide) (fun _ _ _ h => h) h01 rfl hHeld (Or.inl ⟨by rfl, ?_⟩) ?_
            rotate_left
            · (intro w hSw; (try dsimp only at hSw); go_simp; (try with_reducible rfl))
            try simp only [Act.put, List.setIfInBounds_toArray, List.set_cons_zero, List.set_cons_succ]
            refine wpG_takeA (i := 12) (oi := ⟨some 88, _, _, _, _, _⟩) (v := .string ⟨(pack bs').toArray⟩) rfl (by kernel_rfl) (by kernel_rfl) (by kernel_rfl) (by decide) (fun _ _ _ h => h) h01 rfl hHeld (Or.inl ⟨by rfl, ?_⟩) ?_
            · (intro w hSw; have hcv := conv_bs (P := Try.prog) w 27 9 5 Try.underlying27 Try.underlying5 Try.underlying9 (A := Ao) (n := no) (c := co) (l := pack bs') HPN.out hSw; go_simp)
            try simp only [Act.put, List.setIfInBounds_toArray, List.set_cons_zero, List.set_cons_succ]
            refine wpG_takeA (i := 13) (oi := ⟨some 89, _, _, _, _, _⟩) (v := ?_) rfl (by kernel_rfl) (by kernel_rfl) (by kernel_rfl) (by decide) (fun _ _ _ h => h) h01 rfl hHeld (Or.inl ⟨by rfl, ?_⟩) ?_
            rotate_left
            · (intro w hSw; (try dsimp only at hSw); go_simp; (try with_reducible rfl))
            try simp only [Act.put, List.setIfInBounds_toArray, List.set_cons_zero, List.set_cons_succ]
            refine wpG_oneB (i := 14) (o := ⟨some 90, _, _, _, _, _⟩) (by kernel_rfl) rfl rfl (fun K hK => ?_)
            go_simp
            (refine C31.out.mono ?_); rintro e w8 ⟨v8, rfl, ho8, b8⟩
            obtain ⟨Ap, cp8, rfl⟩ := own_sl ho8
            have HP8 := Lib.hid (holds_own ho8)
            have HO8 := Lib.hid (HO7.out.drew.keep b8)
            have B8 := Lib.hid b8
            clear ho8 b8
            refine hK.out _ _ HO8.out (fun hHeld => ?_)
            clear hK K
            try simp only [Act.put, List.setIfInBounds_toArray, List.set_cons_zero, List.set_cons_succ]
            refine wpG_mono (S := (fun (w' : World) => Holds w' Ao no ((pack bs').map Ythgbnpafhkhjpaa.u8) ∧ Holds w' Ap no ((pack bs').map Ythgbnpafhkhjpaa.u8))) (c := 14) (fun _ h => h.1) _ _ _ _ ?_
            clear hHeld h01
            have hHeld := And.intro HO8.out HP8.out
            have h01 := (fun (w' : World) (h : Holds w' Ao no ((pack bs').map Ythgbnpafhkhjpaa.u8) ∧ Holds w' Ap no ((pack bs').map Ythgbnpafhkhjpaa.u8)) => h)
            refine wpG_takeB (i := 15) (oi := ⟨some 91, _, _, _, _, _⟩) (v := .string ⟨(pack bs').toArray⟩) rfl (by kernel_rfl) (by kernel_rfl) (by kernel_rfl) (by decide) (fun _ _ _ h => h) h01 rfl hHeld (Or.inl ⟨by rfl, ?_⟩) ?_
            · (intro w hSw; have hcv := conv_bs (P := Try.prog) w 27 9 5 Try.underlying27 Try.underlying5 Try.underlying9 (A := Ap) (n := no) (c := cp8) (l := pack bs') HPN.out hSw.2; go_simp)
            try simp only [Act.put, List.setIfInBounds_toArray, List.set_cons_zero, List.set_cons_succ]
            refine wpG_takeB (i := 16) (oi := ⟨some 92, _, _, _, _, _⟩) (v := ?_) rfl (by kernel_rfl) (by kernel_rfl) (by kernel_rfl) (by decide) (fun _ _ _ h => h) h01 rfl hHeld (Or.inl ⟨by rfl, ?_⟩) ?_
            rotate_left
            · (intro w hSw; (try dsimp only at hSw); go_simp; (try with_reducible rfl))
            try simp only [Act.put, List.setIfInBounds_toArray, List.set_cons_zero, List.set_cons_succ]
            refine wpG_takeB (i := 17) (oi := ⟨some 93, _, _, _, _, _⟩) (v := ?_) rfl (by kernel_rfl) (by kernel_rfl) (by kernel_rfl) (by decide) (fun _ _ _ h => h) h01 rfl hHeld (Or.inl ⟨by rfl, ?_⟩) ?_
            rotate_left
            · (intro w hSw; (try dsimp only at hSw); go_simp; (try with_reducible rfl))
            try simp only [Act.put, List.setIfInBounds_toArray, List.set_cons_zero, List.set_cons_succ]
            refine wpG_done (by kernel_rfl) ?_ _
            go_wp2_with fail
            have HY8 := Lib.hid (ByteRow.of (own_keeps HR7.out fun k hk => B8.out.block k (own_lt HR7.out k hk)))
            go_loopw [17] (fun kk wr => ∃ q : Nat, (q : Int) ≤ no ∧ kk = .int .i64 q ∧ Hid (ByteRow wr w6.heap.size (.slice Ao no co) no) ∧ Hid (w8.grownBy wr (Value.slice Ao no co).ownBlock)) (fun kk _ => no - (intOf kk).toNat)
            case atStart => exact ⟨0, by omega, rfl, HY8, Lib.hid (World.grownBy.refl _ _)⟩
            case round =>
              obtain ⟨q, hq, rfl, HY, HGR⟩ := hrel
              have hq0 : (0 : Int) ≤ q := by omega
              by_cases hlt : (q : Int) < no
              · obtain ⟨gu, cap, x, hv, hc, hx0, hx1, hf⟩ := HY.out.cell (k := q) (by omega)
                cases hv
                go_wp2_with fail
                go_roundw
                case rel => exact ⟨q + 1, by omega, by go_num, Lib.hid (HY.out.store (by omega) (by omega)), Lib.hid (grown_set HGR.out _ _)⟩
                case measure => simp [intOf]; omega
              · have s8 := HW7.out.drew'.over B8.out
                have a8 := own_keeps (own_drew HA7.out) fun k hk => B8.out.block k (own_lt (own_drew HA7.out) k hk)
                have h68 : w6.heap.size ≤ w8.heap.size := Nat.le_trans D7.out.size B8.out.size
                have d9 := HY8.out.below h68 HGR.out
                have r8 := own_keeps (own_drew HR7.out) fun k hk => B8.out.block k (own_lt (own_drew HR7.out) k hk)
                have HS9 := Lib.hid (s8.grownR HGR.out (fun e => by have := (r8.lt gw e.symm).1; have := S6.out.blk.lt; omega) (fun k hk e => by have := (r8.lt k e.symm).1; have := own_lt S6.out.own k hk; omega))
                have HA9 := Lib.hid (own_keeps a8 fun k hk => HGR.out.block k (own_lt a8 k hk) (fun e => own_ne a8 r8 (fun e => by cases e) k hk e.symm))
                have h06 : wc.heap.size ≤ w6.heap.size := Nat.le_trans HT5.out D6.out.size
                have T9 := (((T4.out.below (D5.out.mono T4.out.size)).below D6.out).below ((below_drew D7.out).mono h06)).below (((B8.out.mono (Nat.le_trans h06 D7.out.size)).trans (d9.mono h06)))
                have HC9 := Lib.hid (HC2.out.two HW2.out T9 HT4.out)
                have HB9 := Lib.hid (T9.to_below HB2.out HB2.out.size HGW.out HW2.out.vb)
                clear s8 a8 d9 r8 T9
                go_wp2_with fail
                go_roundw
                case rel => exact ⟨i + 1, bs', va2, A5, c5, bs'.length, by omega, by go_num, rfl, hlen2, HS9, HA9, HC9, HB9⟩
                case measure => simp [intOf]; omega
      · have q5 : ((i : Int) == (cq : Int)) = false := by simp; omega
        have HC2 := Lib.hid (HC.out.next hic)
        have HW2 := HW
        have HA2 := HA
        have HB2 := HB
        clear HW HA HB HC hic
        obtain ⟨k1, k2, k3, k4⟩ := hcl.keepc HB2.out hbl
        have HHX := Lib.hid (hX.h.keep HB2.out)
        have HX := Lib.hid hX
        have HCL := Lib.hid hcl
        have HBL0 := Lib.hid hbl0
        have hxm : (X.m : Int) ≤ 50 := by omega
        have hblc : b < wo.heap.size := Nat.lt_of_lt_of_le hbl HB2.out.size
        clear hX hcl hbl0
        go_wp2_with (first
          | (at_builtin; (refine wpList_app_own (base := wo.heap.size) (n := 0) (m := X.m) (xs := []) (news := X.l.map Ythgbnpafhkhjpaa.u8) rfl (.tmp 36) (.tmp 41) 27 rfl el27 rfl (own_none00 wo 5) rfl (HHX.out.alloc _) (u8_one _) (by unfold maxLen; omega) (by omega) (by simp) ?_; intro v1 w2 hown hg hat; rw [Nat.zero_add, List.nil_append] at hown; obtain ⟨A1, c1, rfl, -, -, h01, -⟩ := own_form hown; have HN1 := Lib.hid (fun h => (h01 h).2); have HO1 := Lib.hid hown; have HD1 := Lib.hid (below_own ((Below.refl wo.heap.size wo).alloc (Nat.le_refl _) _) (by simp) (own_none00 wo 5) hg); clear hown hg hat h01 k1 k2 k3 k4; obtain ⟨k1, k2, k3, k4⟩ := HCL.out.keepc (HB2.out.trans (HD1.out.mono HB2.out.size)) hbl; refine Hid.out ?_)))
        refine Lib.hid ?_
        have HD3 := Lib.hid (show Below wo.heap.size wo (w2.alloc (.cells #[.int .u8 X.k, .int .i64 X.v, .int .i64 X.n, .slice A1 X.m c1] 41)) from HD1.out.alloc HD1.out.size _)
        have hW3 := HW2.out.over HD3.out
        have hXG : ActG (w2.alloc (.cells #[.int .u8 X.k, .int .i64 X.v, .int .i64 X.n, .slice A1 X.m c1] 41)) { X with A := A1, c := c1 } := ⟨HX.out.k0, HX.out.k1, HX.out.v, HX.out.n, HX.out.l, (holds_own HO1.out).alloc _, fun b e h0 => by have := own_lt HO1.out b.block (by rw [show A1 = some b from e]; rfl); simp; omega, HN1.out⟩
        have h19 := lwrite_ws w gw va bs { X with A := A1, c := c1 } _ hW3 (by have := HBL0.out; omega) hXG (show X.m ≤ 1000000 by omega) (fun b e h0 => by
          have h1 := (HO1.out.lt b.block (by rw [show A1 = some b from e]; rfl)).1
          have h2 := HW2.out.blk.lt
          exact ⟨by omega, fun e2 => by have := own_lt HW2.out.own _ e2; omega⟩)
        obtain ⟨E, hE⟩ : ∃ E, wE bs X = E := ⟨_, rfl⟩
        obtain ⟨bs', hbs'⟩ : ∃ b, wN bs X = b := ⟨_, rfl⟩
        have hlen := wN_le (bs := bs) HX.out.k0 HX.out.l hm50
        rw [show wE bs { X with A := A1, c := c1 } = E from hE, show wN bs { X with A := A1, c := c1 } = bs' from hbs'] at h19
        dsimp only at h19
        rw [hbs'] at hlen
        have hlen2 : bs'.length ≤ 4096 * (i + 1) := by have := HBL0.out; omega
        have hlen3 : (bs'.length : Int) ≤ 300000 := by omega
        have C19 := Lib.hid h19
        have HW3 := Lib.hid hW3
        have HE := Lib.hid hE
        have HBS := Lib.hid hbs'
        have HM4 := Lib.hid (show m ≤ 300000 by omega)
        clear h19 hW3 hXG hE hbs' hlen
        go_wp2_with (first
          | (go_at_call 19; (with_reducible refine C19.out.mono ?_); rintro e w4 ⟨x, rfl, rfl, va2, s4, t4, h4⟩; have HA4 := Lib.hid (own_apartW (own_keeps HA2.out fun k hk => HD3.out.block k (own_lt HA2.out k hk)) HW3.out t4 (by decide) (by decide)); have T4 := Lib.hid (Two.of_below HD3.out t4); have HT4 := Lib.hid (h4.low HD3.out.size); have HO4 := Lib.hid (own_keeps (own_alloc HO1.out) fun k hk => t4.block k (own_lt (own_alloc HO1.out) k hk) (fun e => by have := (HO1.out.lt k hk).1; have := HW2.out.blk.lt; omega) (fun e => by have := (HO1.out.lt k hk).1; have := own_lt HW2.out.own k e; omega)); have HSP := Lib.hid (show ∀ k, va2.ownBlock = some k → (Value.slice A1 X.m c1).ownBlock ≠ some k from fun k hk e => by
            rcases h4 with h4 | h4
            · have := (HO1.out.lt k e).1; have := own_lt HW2.out.own k (h4 ▸ hk); omega
            · have h5 := h4 k hk; have := own_lt HO1.out k e; simp at h5; omega); have B4 := Lib.hid (t4.to_below (HB2.out.trans (HD3.out.mono HB2.out.size)) (Nat.le_trans HB2.out.size HD3.out.size) HGW.out HW2.out.vb); have S4 := Lib.hid s4; clear s4 t4 h4 k1 k2 k3 k4; obtain ⟨k1, k2, k3, k4⟩ := HCL.out.keepc B4.out hbl; have h30 := written_any Aa m ca w.heap.size bs X w4 HA4.out B4.out.size HM4.out (HX.out.below B4.out) (by omega); rw [HE.out, HBS.out] at h30; have C30 := Lib.hid h30; clear h30)
          | (go_at_call 30; (with_reducible refine C30.out.mono ?_); rintro e w5 ⟨A5, c5, rfl, ho5, b5⟩; have HA5 := Lib.hid ho5; have S5 := Lib.hid (S4.out.over b5); have D5 := Lib.hid b5; have HO5 := Lib.hid (own_keeps HO4.out fun k hk => b5.block k (own_lt HO4.out k hk)); have HY5 := Lib.hid (ByteRow.of HO5.out); clear ho5 b5))
        clear k1 k2 k3 k4 C19 C30
        go_loopw [15] (fun kk wr => ∃ q : Nat, (q : Int) ≤ X.m ∧ kk = .int .i64 q ∧ Hid (ByteRow wr wo.heap.size (.slice A1 X.m c1) X.m) ∧ Hid (w5.grownBy wr (Value.slice A1 X.m c1).ownBlock)) (fun kk _ => X.m - (intOf kk).toNat)
        case atStart => exact ⟨0, by omega, rfl, HY5, Lib.hid (World.grownBy.refl _ _)⟩
        case round =>
          obtain ⟨q, hq, rfl, HY, HGR⟩ := hrel
          have hq0 : (0 : Int) ≤ q := by omega
          by_cases hlt : (q : Int) < X.m
          · obtain ⟨gu, cap, x, hv, hc, hx0, hx1, hf⟩ := HY.out.cell (k := q) (by omega)
            cases hv
            go_wp2_with fail
            go_roundw
            case rel => exact ⟨q + 1, by omega, by go_num, Lib.hid (HY.out.store (by omega) (by omega)), Lib.hid (grown_set HGR.out _ _)⟩
            case measure => simp [intOf]; omega
          · obtain ⟨w6, rfl⟩ : ∃ w6 : World, w6 = wr := ⟨_, rfl⟩
            have HT5 := Lib.hid (Nat.le_trans T4.out.size D5.out.size)
            have D6 := Lib.hid (HY5.out.below HT5.out HGR.out)
            have S6 := Lib.hid (S5.out.grownR HGR.out (fun e => by have := (HO1.out.lt gw e.symm).1; have := HW2.out.blk.lt; omega) (fun k hk e => HSP.out k hk e.symm))
            have HA6 := Lib.hid (own_keeps HA5.out fun k hk => HGR.out.block k (own_lt HA5.out k hk) (fun e => own_ne HA5.out HO5.out (fun e => by cases e) k hk e.symm))
            have h12 := out_some _ gw va2 bs' w6 S6.out (by omega)
            obtain ⟨no, hno⟩ : ∃ k, (bs'.length + 7) / 8 = k := ⟨_, rfl⟩
            rw [hno] at h12
            have HNO := Lib.hid hno
            have HPN := Lib.hid (show (pack bs').length = no by rw [pack_length, hno])
            have hno2 : (no : Int) ≤ 300000 := by omega
            have C12 := Lib.hid h12
            clear h12 hno HGR HY hq0 hq
            go_wp2_with (go_at_call 12; (with_reducible refine C12.out.mono ?_); rintro e w7 ⟨v7, rfl, ho7, b7⟩; refine Hid.out ?_)
            refine Lib.hid ?_
            obtain ⟨Ao, co, rfl⟩ := own_sl ho7
            have HA7 := Lib.hid (own_keeps HA6.out fun k hk => b7.block k (own_lt HA6.out k hk))
            have HW7 := Lib.hid (S6.out.over b7)
            have HO7 := Lib.hid (holds_own ho7)
            have HR7 := Lib.hid ho7
            have D7 := Lib.hid b7
            obtain ⟨Az, cz, ez, rb⟩ := RB.own HA7.out
            cases ez
            have h31 := rbytes_any A5 bs'.length c5 bs' w7.drew ⟨rb.h.drew, rb.mc, rb.cm, rb.z⟩ (by omega)
            rw [HNO.out] at h31
            have C31 := Lib.hid h31
            clear ho7 b7 rb h31 hlt
            go_wp2_with fail
            refine wp_region_G (S0 := (fun (w' : World) => Holds w' Ao no ((pack bs').map Ythgbnpafhkhjpaa.u8))) (S1 := (fun (w' : World) => Holds w' Ao no ((pack bs').map Ythgbnpafhkhjpaa.u8))) (c := 14) (by kernel_rfl) ?_
            have hHeld := HO7.out.drew
            have h01 := (fun (w' : World) (h : Holds w' Ao no ((pack bs').map Ythgbnpafhkhjpaa.u8)) => h)
            refine wpG_takeA (i := 0) (oi := ⟨some 76, _, _, _, _, _⟩) (v := ?_) rfl (by kernel_rfl) (by kernel_rfl) (by kernel_rfl) (by decide) (fun _ _ _ h => h) h01 rfl hHeld (Or.inl ⟨by rfl, ?_⟩) ?_
            rotate_left
            · (intro w hSw; (try dsimp only at hSw); go_simp; (try with_reducible rfl))
            try simp only [Act.put, List.setIfInBounds_toArray, List.set_cons_zero, List.set_cons_succ]
            refine wpG_takeA (i := 1) (oi := ⟨some 77, _, _, _, _, _⟩) (v := ?_) rfl (by kernel_rfl) (by kernel_rfl) (by kernel_rfl) (by decide) (fun _ _ _ h => h) h01 rfl hHeld (Or.inl ⟨by rfl, ?_⟩) ?_
            rotate_left
            · (intro w hSw; (try dsimp only at hSw); go_simp; (try with_reducible rfl))
            try simp only [Act.put, List.setIfInBounds_toArray, List.set_cons_zero, List.set_cons_succ]
            refine wpG_takeA (i := 2) (oi := ⟨some 78, _, _, _, _, _⟩) (v := ?_) rfl (by kernel_rfl) (by kernel_rfl) (by kernel_rfl) (by decide) (fun _ _ _ h => h) h01 rfl hHeld (Or.inl ⟨by rfl, ?_⟩) ?_
            rotate_left
            · (intro w hSw; (try dsimp only at hSw); go_simp; (try with_reducible rfl))
            try simp only [Act.put, List.setIfInBounds_toArray, List.set_cons_zero, List.set_cons_succ]
            refine wpG_takeA (i := 3) (oi := ⟨some 79, _, _, _, _, _⟩) (v := ?_) rfl (by kernel_rfl) (by kernel_rfl) (by kernel_rfl) (by decide) (fun _ _ _ h => h) h01 rfl hHeld (Or.inl ⟨by rfl, ?_⟩) ?_
            rotate_left
            · (intro w hSw; (try dsimp only at hSw); go_simp; (try with_reducible rfl))
            try simp only [Act.put, List.setIfInBounds_toArray, List.set_cons_zero, List.set_cons_succ]
            refine wpG_takeA (i := 4) (oi := ⟨some 80, _, _, _, _, _⟩) (v := ?_) rfl (by kernel_rfl) (by kernel_rfl) (by kernel_rfl) (by decide) (fun _ _ _ h => h) h01 rfl hHeld (Or.inl ⟨by rfl, ?_⟩) ?_
            rotate_left
            · (intro w hSw; (try dsimp only at hSw); go_simp; (try with_reducible rfl))
            try simp only [Act.put, List.setIfInBounds_toArray, List.set_cons_zero, List.set_cons_succ]
            refine wpG_takeA (i := 6) (oi := ⟨some 82, _, _, _, _, _⟩) (v := ?_) rfl (by kernel_rfl) (by kernel_rfl) (by kernel_rfl) (by decide) (fun _ _ _ h => h) h01 rfl hHeld (Or.inl ⟨by rfl, ?_⟩) ?_
            rotate_left
            · (intro w hSw; (try dsimp only at hSw); go_simp; (try with_reducible rfl))
            try simp only [Act.put, List.setIfInBounds_toArray, List.set_cons_zero, List.set_cons_succ]
            refine wpG_takeA (i := 7) (oi := ⟨some 83, _, _, _, _, _⟩) (v := ?_) rfl (by kernel_rfl) (by kernel_rfl) (by kernel_rfl) (by decide) (fun _ _ _ h => h) h01 rfl hHeld (Or.inl ⟨by rfl, ?_⟩) ?_
            rotate_left
            · (intro w hSw; (try dsimp only at hSw); go_simp; (try with_reducible rfl))
            try simp only [Act.put, List.setIfInBounds_toArray, List.set_cons_zero, List.set_cons_succ]
            refine wpG_oneA (i := 5) (o := ⟨some 81, _, _, _, _, _⟩) (by kernel_rfl) rfl rfl (fun K hK => ?_)
            go_simp
            (with_reducible refine (wlen_some gw va2 bs'.length _ HW7.out.blk.drew).mono ?_); rintro e w9 ⟨rfl, rfl⟩
            refine hK.out _ _ hHeld (fun hHeld => ?_)
            clear hK K
            try simp only [Act.put, List.setIfInBounds_toArray, List.set_cons_zero, List.set_cons_succ]
            refine wpG_takeA (i := 8) (oi := ⟨some 84, _, _, _, _, _⟩) (v := ?_) rfl (by kernel_rfl) (by kernel_rfl) (by kernel_rfl) (by decide) (fun _ _ _ h => h) h01 rfl hHeld (Or.inl ⟨by rfl, ?_⟩) ?_
            rotate_left
            · (intro w hSw; (try dsimp only at hSw); go_simp; (try with_reducible rfl))
            try simp only [Act.put, List.setIfInBounds_toArray, List.set_cons_zero, List.set_cons_succ]
            refine wpG_takeA (i := 9) (oi := ⟨some 85, _, _, _, _, _⟩) (v := ?_) rfl (by kernel_rfl) (by kernel_rfl) (by kernel_rfl) (by decide) (fun _ _ _ h => h) h01 rfl hHeld (Or.inl ⟨by rfl, ?_⟩) ?_
            rotate_left
            · (intro w hSw; (try dsimp only at hSw); go_simp; (try with_reducible rfl))
            try simp only [Act.put, List.setIfInBounds_toArray, List.set_cons_zero, List.set_cons_succ]
            refine wpG_takeA (i := 10) (oi := ⟨some 86, _, _, _, _, _⟩) (v := ?_) rfl (by kernel_rfl) (by kernel_rfl) (by kernel_rfl) (by decide) (fun _ _ _ h => h) h01 rfl hHeld (Or.inl ⟨by rfl, ?_⟩) ?_
            rotate_left
            · (intro w hSw; (try dsimp only at hSw); go_simp; (try with_reducible rfl))
            try simp only [Act.put, List.setIfInBounds_toArray, List.set_cons_zero, List.set_cons_succ]
            refine wpG_takeA (i := 11) (oi := ⟨some 87, _, _, _, _, _⟩) (v := ?_) rfl (by kernel_rfl) (by kernel_rfl) (by kernel_rfl) (by decide) (fun _ _ _ h => h) h01 rfl hHeld (Or.inl ⟨by rfl, ?_⟩) ?_
            rotate_left
            · (intro w hSw; (try dsimp only at hSw); go_simp; (try with_reducible rfl))
            try simp only [Act.put, List.setIfInBounds_toArray, List.set_cons_zero, List.set_cons_succ]
            refine wpG_takeA (i := 12) (oi := ⟨some 88, _, _, _, _, _⟩) (v := .string ⟨(pack bs').toArray⟩) rfl (by kernel_rfl) (by kernel_rfl) (by kernel_rfl) (by decide) (fun _ _ _ h => h) h01 rfl hHeld (Or.inl ⟨by rfl, ?_⟩) ?_
            · (intro w hSw; have hcv := conv_bs (P := Try.prog) w 27 9 5 Try.underlying27 Try.underlying5 Try.underlying9 (A := Ao) (n := no) (c := co) (l := pack bs') HPN.out hSw; go_simp)
            try simp only [Act.put, List.setIfInBounds_toArray, List.set_cons_zero, List.set_cons_succ]
            refine wpG_takeA (i := 13) (oi := ⟨some 89, _, _, _, _, _⟩) (v := ?_) rfl (by kernel_rfl) (by kernel_rfl) (by kernel_rfl) (by decide) (fun _ _ _ h => h) h01 rfl hHeld (Or.inl ⟨by rfl, ?_⟩) ?_
            rotate_left
            · (intro w hSw; (try dsimp only at hSw); go_simp; (try with_reducible rfl))
            try simp only [Act.put, List.setIfInBounds_toArray, List.set_cons_zero, List.set_cons_succ]
            refine wpG_oneB (i := 14) (o := ⟨some 90, _, _, _, _, _⟩) (by kernel_rfl) rfl rfl (fun K hK => ?_)
            go_simp
            (refine C31.out.mono ?_); rintro e w8 ⟨v8, rfl, ho8, b8⟩
            obtain ⟨Ap, cp8, rfl⟩ := own_sl ho8
            have HP8 := Lib.hid (holds_own ho8)
            have HO8 := Lib.hid (HO7.out.drew.keep b8)
            have B8 := Lib.hid b8
            clear ho8 b8
            refine hK.out _ _ HO8.out (fun hHeld => ?_)
            clear hK K
            try simp only [Act.put, List.setIfInBounds_toArray, List.set_cons_zero, List.set_cons_succ]
            refine wpG_mono (S := (fun (w' : World) => Holds w' Ao no ((pack bs').map Ythgbnpafhkhjpaa.u8) ∧ Holds w' Ap no ((pack bs').map Ythgbnpafhkhjpaa.u8))) (c := 14) (fun _ h => h.1) _ _ _ _ ?_
            clear hHeld h01
            have hHeld := And.intro HO8.out HP8.out
            have h01 := (fun (w' : World) (h : Holds w' Ao no ((pack bs').map Ythgbnpafhkhjpaa.u8) ∧ Holds w' Ap no ((pack bs').map Ythgbnpafhkhjpaa.u8)) => h)
            refine wpG_takeB (i := 15) (oi := ⟨some 91, _, _, _, _, _⟩) (v := .string ⟨(pack bs').toArray⟩) rfl (by kernel_rfl) (by kernel_rfl) (by kernel_rfl) (by decide) (fun _ _ _ h => h) h01 rfl hHeld (Or.inl ⟨by rfl, ?_⟩) ?_
            · (intro w hSw; have hcv := conv_bs (P := Try.prog) w 27 9 5 Try.underlying27 Try.underlying5 Try.underlying9 (A := Ap) (n := no) (c := cp8) (l := pack bs') HPN.out hSw.2; go_simp)
            try simp only [Act.put, List.setIfInBounds_toArray, List.set_cons_zero, List.set_cons_succ]
            refine wpG_takeB (i := 16) (oi := ⟨some 92, _, _, _, _, _⟩) (v := ?_) rfl (by kernel_rfl) (by kernel_rfl) (by kernel_rfl) (by decide) (fun _ _ _ h => h) h01 rfl hHeld (Or.inl ⟨by rfl, ?_⟩) ?_
            rotate_left
            · (intro w hSw; (try dsimp only at hSw); go_simp; (try with_reducible rfl))
            try simp only [Act.put, List.setIfInBounds_toArray, List.set_cons_zero, List.set_cons_succ]
            refine wpG_takeB (i := 17) (oi := ⟨some 93, _, _, _, _, _⟩) (v := ?_) rfl (by kernel_rfl) (by kernel_rfl) (by kernel_rfl) (by decide) (fun _ _ _ h => h) h01 rfl hHeld (Or.inl ⟨by rfl, ?_⟩) ?_
            rotate_left
            · (intro w hSw; (try dsimp only at hSw); go_simp; (try with_reducible rfl))
            try simp only [Act.put, List.setIfInBounds_toArray, List.set_cons_zero, List.set_cons_succ]
            refine wpG_done (by kernel_rfl) ?_ _
            go_wp2_with fail
            have HY8 := Lib.hid (ByteRow.of (own_keeps HR7.out fun k hk => B8.out.block k (own_lt HR7.out k hk)))
            go_loopw [17] (fun kk wr => ∃ q : Nat, (q : Int) ≤ no ∧ kk = .int .i64 q ∧ Hid (ByteRow wr w6.heap.size (.slice Ao no co) no) ∧ Hid (w8.grownBy wr (Value.slice Ao no co).ownBlock)) (fun kk _ => no - (intOf kk).toNat)
            case atStart => exact ⟨0, by omega, rfl, HY8, Lib.hid (World.grownBy.refl _ _)⟩
            case round =>
              obtain ⟨q, hq, rfl, HY, HGR⟩ := hrel
              have hq0 : (0 : Int) ≤ q := by omega
              by_cases hlt : (q : Int) < no
              · obtain ⟨gu, cap, x, hv, hc, hx0, hx1, hf⟩ := HY.out.cell (k := q) (by omega)
                cases hv
                go_wp2_with fail
                go_roundw
                case rel => exact ⟨q + 1, by omega, by go_num, Lib.hid (HY.out.store (by omega) (by omega)), Lib.hid (grown_set HGR.out _ _)⟩
                case measure => simp [intOf]; omega
              · have s8 := HW7.out.drew'.over B8.out
                have a8 := own_keeps (own_drew HA7.out) fun k hk => B8.out.block k (own_lt (own_drew HA7.out) k hk)
                have h68 : w6.heap.size ≤ w8.heap.size := Nat.le_trans D7.out.size B8.out.size
                have d9 := HY8.out.below h68 HGR.out
                have r8 := own_keeps (own_drew HR7.out) fun k hk => B8.out.block k (own_lt (own_drew HR7.out) k hk)
                have HS9 := Lib.hid (s8.grownR HGR.out (fun e => by have := (r8.lt gw e.symm).1; have := S6.out.blk.lt; omega) (fun k hk e => by have := (r8.lt k e.symm).1; have := own_lt S6.out.own k hk; omega))
                have HA9 := Lib.hid (own_keeps a8 fun k hk => HGR.out.block k (own_lt a8 k hk) (fun e => own_ne a8 r8 (fun e => by cases e) k hk e.symm))
                have h06 : wo.heap.size ≤ w6.heap.size := Nat.le_trans HT5.out D6.out.size
                have T9 := (((T4.out.below (D5.out.mono T4.out.size)).below D6.out).below ((below_drew D7.out).mono h06)).below (((B8.out.mono (Nat.le_trans h06 D7.out.size)).trans (d9.mono h06)))
                have HC9 := Lib.hid (HC2.out.two HW2.out T9 HT4.out)
                have HB9 := Lib.hid (T9.to_below HB2.out HB2.out.size HGW.out HW2.out.vb)
                clear s8 a8 d9 r8 T9
                go_wp2_with fail
                go_roundw
                case rel => exact ⟨i + 1, bs', va2, A5, c5, bs'.length, by omega, by go_num, rfl, hlen2, HS9, HA9, HC9, HB9⟩
                case measure => simp [intOf]; omega
    · obtain rfl : i = n := by omega
      have hi60 : i ≤ 60 := by omega
      clear hi hi0 hlt
      have hbl0 := bools_len HA.out
      by_cases hcn : cq < i
      · obtain ⟨h1, _⟩ | ⟨-, g2, v2, be, Ae, ce, rfl, rfl, hcp⟩ := HC.out
        · omega
        have qc : decide (cq < i) = true := by simpa using hcn
        obtain ⟨no, hno⟩ : ∃ k, (be.length + 7) / 8 = k := ⟨_, rfl⟩
        have HNO := Lib.hid hno
        have HPN := Lib.hid (show (pack be).length = no by rw [pack_length, hno])
        have hble := hcp.le
        have hbe2 : (be.length : Int) ≤ 300000 := by omega
        have h12 := out_some _ g2 v2 be wo.drew hcp.ws.drew' (by omega)
        rw [hno] at h12
        have C12 := Lib.hid h12
        have HCP := Lib.hid hcp
        have HPF := Lib.hid (put_fine be 1 1 (by omega) (by omega) (by omega) (by omega))
        have HBL0 := Lib.hid hbl0
        clear h12 hno hcp hble hbl0 HC hcn
        go_wp2_with fail
        refine wp_region_G (S0 := (fun (_ : World) => True)) (S1 := (fun (_ : World) => True)) (c := 20) (by kernel_rfl) ?_
        have hHeld := True.intro
        have h01 := (fun (_ : World) (h : True) => h)
        refine wpG_takeA (i := 0) (oi := ⟨some 111, _, _, _, _, _⟩) (v := ?_) rfl (by kernel_rfl) (by kernel_rfl) (by kernel_rfl) (by decide) (fun _ _ _ h => h) h01 rfl hHeld (Or.inl ⟨by rfl, ?_⟩) ?_
        rotate_left
        · (intro w hSw; (try dsimp only at hSw); go_simp; (try with_reducible rfl))
        try simp only [Act.put, List.setIfInBounds_toArray, List.set_cons_zero, List.set_cons_succ]
        refine wpG_takeA (i := 1) (oi := ⟨some 112, _, _, _, _, _⟩) (v := ?_) rfl (by kernel_rfl) (by kernel_rfl) (by kernel_rfl) (by decide) (fun _ _ _ h => h) h01 rfl hHeld (Or.inl ⟨by rfl, ?_⟩) ?_
        rotate_left
        · (intro w hSw; (try dsimp only at hSw); go_simp; (try with_reducible rfl))
        try simp only [Act.put, List.setIfInBounds_toArray, List.set_cons_zero, List.set_cons_succ]
        refine wpG_takeA (i := 2) (oi := ⟨some 113, _, _, _, _, _⟩) (v := ?_) rfl (by kernel_rfl) (by kernel_rfl) (by kernel_rfl) (by decide) (fun _ _ _ h => h) h01 rfl hHeld (Or.inl ⟨by rfl, ?_⟩) ?_
        rotate_left
        · (intro w hSw; (try dsimp only at hSw); go_simp; (try with_reducible rfl))
        try simp only [Act.put, List.setIfInBounds_toArray, List.set_cons_zero, List.set_cons_succ]
        refine wpG_takeA (i := 3) (oi := ⟨some 114, _, _, _, _, _⟩) (v := ?_) rfl (by kernel_rfl) (by kernel_rfl) (by kernel_rfl) (by decide) (fun _ _ _ h => h) h01 rfl hHeld (Or.inl ⟨by rfl, ?_⟩) ?_
        rotate_left
        · (intro w hSw; (try dsimp only at hSw); go_simp; (try with_reducible rfl))
        try simp only [Act.put, List.setIfInBounds_toArray, List.set_cons_zero, List.set_cons_succ]
        refine wpG_takeA (i := 5) (oi := ⟨some 116, _, _, _, _, _⟩) (v := ?_) rfl (by kernel_rfl) (by kernel_rfl) (by kernel_rfl) (by decide) (fun _ _ _ h => h) h01 rfl hHeld (Or.inl ⟨by rfl, ?_⟩) ?_
        rotate_left
        · (intro w hSw; (try dsimp only at hSw); go_simp; (try with_reducible rfl))
        try simp only [Act.put, List.setIfInBounds_toArray, List.set_cons_zero, List.set_cons_succ]
        refine wpG_takeA (i := 6) (oi := ⟨some 117, _, _, _, _, _⟩) (v := ?_) rfl (by kernel_rfl) (by kernel_rfl) (by kernel_rfl) (by decide) (fun _ _ _ h => h) h01 rfl hHeld (Or.inl ⟨by rfl, ?_⟩) ?_
        rotate_left
        · (intro w hSw; (try dsimp only at hSw); go_simp; (try with_reducible rfl))
        try simp only [Act.put, List.setIfInBounds_toArray, List.set_cons_zero, List.set_cons_succ]
        refine wpG_oneA (i := 4) (o := ⟨some 115, _, _, _, _, _⟩) (by kernel_rfl) rfl rfl (fun K hK => ?_)
        go_simp
        (with_reducible refine (wlen_some g2 v2 be.length _ HCP.out.ws.blk.drew).mono ?_); rintro e w9 ⟨rfl, rfl⟩
        refine hK.out _ _ trivial (fun hHeld => ?_)
        clear hK K
        try simp only [Act.put, List.setIfInBounds_toArray, List.set_cons_zero, List.set_cons_succ]
        refine wpG_takeA (i := 7) (oi := ⟨some 118, _, _, _, _, _⟩) (v := ?_) rfl (by kernel_rfl) (by kernel_rfl) (by kernel_rfl) (by decide) (fun _ _ _ h => h) h01 rfl hHeld (Or.inl ⟨by rfl, ?_⟩) ?_
        rotate_left
        · (intro w hSw; (try dsimp only at hSw); go_simp; (try with_reducible rfl))
        try simp only [Act.put, List.setIfInBounds_toArray, List.set_cons_zero, List.set_cons_succ]
        refine wpG_takeA (i := 8) (oi := ⟨some 119, _, _, _, _, _⟩) (v := ?_) rfl (by kernel_rfl) (by kernel_rfl) (by kernel_rfl) (by decide) (fun _ _ _ h => h) h01 rfl hHeld (Or.inl ⟨by rfl, ?_⟩) ?_
        rotate_left
        · (intro w hSw; (try dsimp only at hSw); go_simp; (try with_reducible rfl))
        try simp only [Act.put, List.setIfInBounds_toArray, List.set_cons_zero, List.set_cons_succ]
        refine wpG_takeA (i := 9) (oi := ⟨some 120, _, _, _, _, _⟩) (v := ?_) rfl (by kernel_rfl) (by kernel_rfl) (by kernel_rfl) (by decide) (fun _ _ _ h => h) h01 rfl hHeld (Or.inl ⟨by rfl, ?_⟩) ?_
        rotate_left
        · (intro w hSw; (try dsimp only at hSw); go_simp; (try with_reducible rfl))
        try simp only [Act.put, List.setIfInBounds_toArray, List.set_cons_zero, List.set_cons_succ]
        refine wpG_takeA (i := 10) (oi := ⟨some 121, _, _, _, _, _⟩) (v := ?_) rfl (by kernel_rfl) (by kernel_rfl) (by kernel_rfl) (by decide) (fun _ _ _ h => h) h01 rfl hHeld (Or.inl ⟨by rfl, ?_⟩) ?_
        rotate_left
        · (intro w hSw; (try dsimp only at hSw); go_simp; (try with_reducible rfl))
        try simp only [Act.put, List.setIfInBounds_toArray, List.set_cons_zero, List.set_cons_succ]
        refine wpG_takeA (i := 13) (oi := ⟨some 124, _, _, _, _, _⟩) (v := ?_) rfl (by kernel_rfl) (by kernel_rfl) (by kernel_rfl) (by decide) (fun _ _ _ h => h) h01 rfl hHeld (Or.inl ⟨by rfl, ?_⟩) ?_
        rotate_left
        · (intro w hSw; (try dsimp only at hSw); go_simp; (try with_reducible rfl))
        try simp only [Act.put, List.setIfInBounds_toArray, List.set_cons_zero, List.set_cons_succ]
        refine wpG_oneA (i := 11) (o := ⟨some 122, _, _, _, _, _⟩) (by kernel_rfl) rfl rfl (fun K hK => ?_)
        go_simp
        (refine C12.out.mono ?_); rintro e w2 ⟨v9, rfl, ho9, b9⟩
        obtain ⟨Ao, co, rfl⟩ := own_sl ho9
        have ha9 := own_keeps (own_drew HCP.out.row) fun k hk => b9.block k (own_lt (own_drew HCP.out.row) k hk)
        obtain ⟨Az, cz, ez, rb⟩ := RB.own ha9
        cases ez
        have h31 := rbytes_any Ae be.length ce be w2 rb (by omega)
        rw [HNO.out] at h31
        have C31 := Lib.hid h31
        have R2 := Lib.hid ho9
        have H2 := Lib.hid (holds_own ho9)
        have S2 := Lib.hid (HCP.out.ws.drew'.over b9)
        have D2 := Lib.hid b9
        clear ho9 b9 ha9 rb h31
        refine hK.out _ _ trivial (fun hHeld => ?_)
        clear hK K
        try simp only [Act.put, List.setIfInBounds_toArray, List.set_cons_zero, List.set_cons_succ]
        refine wpG_mono (S := (fun (w' : World) => Holds w' Ao no ((pack be).map Ythgbnpafhkhjpaa.u8))) (c := 20) (fun _ _ => trivial) _ _ _ _ ?_
        clear hHeld h01
        have hHeld := H2.out
        have h01 := (fun (w' : World) (h : Holds w' Ao no ((pack be).map Ythgbnpafhkhjpaa.u8)) => h)
        refine wpG_takeA (i := 12) (oi := ⟨some 123, _, _, _, _, _⟩) (v := .string ⟨(pack be).toArray⟩) rfl (by kernel_rfl) (by kernel_rfl) (by kernel_rfl) (by decide) (fun _ _ _ h => h) h01 rfl hHeld (Or.inl ⟨by rfl, ?_⟩) ?_
        · (intro w hSw; have hcv := conv_bs (P := Try.prog) w 27 9 5 Try.underlying27 Try.underlying5 Try.underlying9 (A := Ao) (n := no) (c := co) (l := pack be) HPN.out hSw; go_simp)
        try simp only [Act.put, List.setIfInBounds_toArray, List.set_cons_zero, List.set_cons_succ]
        refine wpG_oneA (i := 14) (o := ⟨some 125, _, _, _, _, _⟩) (by kernel_rfl) rfl rfl (fun K hK => ?_)
        go_simp
        (refine C31.out.mono ?_); rintro e w3 ⟨v8, rfl, ho8, b8⟩
        obtain ⟨Ap, cp8, rfl⟩ := own_sl ho8
        have H3 := Lib.hid (H2.out.keep b8)
        have R3 := Lib.hid (own_keeps R2.out fun k hk => b8.block k (own_lt R2.out k hk))
        have P3 := Lib.hid (holds_own ho8)
        have Q3 := Lib.hid ho8
        have S3 := Lib.hid (S2.out.over b8)
        have D3 := Lib.hid (D2.out.trans (b8.mono D2.out.size))
        clear ho8 b8
        refine hK.out _ _ H3.out (fun hHeld => ?_)
        clear hK K
        try simp only [Act.put, List.setIfInBounds_toArray, List.set_cons_zero, List.set_cons_succ]
        refine wpG_mono (S := (fun (w' : World) => Holds w' Ao no ((pack be).map Ythgbnpafhkhjpaa.u8) ∧ Holds w' Ap no ((pack be).map Ythgbnpafhkhjpaa.u8))) (c := 20) (fun _ h => h.1) _ _ _ _ ?_
        clear hHeld h01
        have hHeld := And.intro H3.out P3.out
        have h01 := (fun (w' : World) (h : Holds w' Ao no ((pack be).map Ythgbnpafhkhjpaa.u8) ∧ Holds w' Ap no ((pack be).map Ythgbnpafhkhjpaa.u8)) => h)
        refine wpG_takeA (i := 15) (oi := ⟨some 126, _, _, _, _, _⟩) (v := .string ⟨(pack be).toArray⟩) rfl (by kernel_rfl) (by kernel_rfl) (by kernel_rfl) (by decide) (fun _ _ _ h => h) h01 rfl hHeld (Or.inl ⟨by rfl, ?_⟩) ?_
        · (intro w hSw; have hcv := conv_bs (P := Try.prog) w 27 9 5 Try.underlying27 Try.underlying5 Try.underlying9 (A := Ap) (n := no) (c := cp8) (l := pack be) HPN.out hSw.2; go_simp)
        try simp only [Act.put, List.setIfInBounds_toArray, List.set_cons_zero, List.set_cons_succ]
        refine wpG_takeA (i := 16) (oi := ⟨some 127, _, _, _, _, _⟩) (v := ?_) rfl (by kernel_rfl) (by kernel_rfl) (by kernel_rfl) (by decide) (fun _ _ _ h => h) h01 rfl hHeld (Or.inl ⟨by rfl, ?_⟩) ?_
        rotate_left
        · (intro w hSw; (try dsimp only at hSw); go_simp; (try with_reducible rfl))
        try simp only [Act.put, List.setIfInBounds_toArray, List.set_cons_zero, List.set_cons_succ]
        refine wpG_takeA (i := 17) (oi := ⟨some 128, _, _, _, _, _⟩) (v := ?_) rfl (by kernel_rfl) (by kernel_rfl) (by kernel_rfl) (by decide) (fun _ _ _ h => h) h01 rfl hHeld (Or.inl ⟨by rfl, ?_⟩) ?_
        rotate_left
        · (intro w hSw; (try dsimp only at hSw); go_simp; (try with_reducible rfl))
        try simp only [Act.put, List.setIfInBounds_toArray, List.set_cons_zero, List.set_cons_succ]
        refine wpG_takeA (i := 18) (oi := ⟨some 129, _, _, _, _, _⟩) (v := ?_) rfl (by kernel_rfl) (by kernel_rfl) (by kernel_rfl) (by decide) (fun _ _ _ h => h) h01 rfl hHeld (Or.inl ⟨by rfl, ?_⟩) ?_
        rotate_left
        · (intro w hSw; (try dsimp only at hSw); go_simp; (try with_reducible rfl))
        try simp only [Act.put, List.setIfInBounds_toArray, List.set_cons_zero, List.set_cons_succ]
        refine wpG_takeA (i := 19) (oi := ⟨some 130, _, _, _, _, _⟩) (v := ?_) rfl (by kernel_rfl) (by kernel_rfl) (by kernel_rfl) (by decide) (fun _ _ _ h => h) h01 rfl hHeld (Or.inl ⟨by rfl, ?_⟩) ?_
        rotate_left
        · (intro w hSw; (try dsimp only at hSw); go_simp; (try with_reducible rfl))
        try simp only [Act.put, List.setIfInBounds_toArray, List.set_cons_zero, List.set_cons_succ]
        refine wpG_oneB (i := 20) (o := ⟨some 131, _, _, _, _, _⟩) (by kernel_rfl) rfl rfl (fun K hK => ?_)
        go_simp
        (refine (put_some w.heap.size g2 v2 be 1 1 w3 S3.out HPF.out).mono ?_); rintro e w4 ⟨x9, rfl, rfl, v4, s4, t4, -⟩
        have BW3 := Lib.hid (show Below w.heap.size w w3 from HB.out.trans (((below_drew (Below.refl wo.heap.size wo)).trans D3.out).mono HB.out.size))
        have SW3 := Lib.hid (HW.out.drew'.over D3.out)
        have AW3 := Lib.hid (own_keeps (own_drew HA.out) fun k hk => D3.out.block k (own_lt (own_drew HA.out) k hk))
        have B4 := Lib.hid (t4.to_below BW3.out BW3.out.size HCP.out.ge S3.out.vb)
        have S4 := Lib.hid (SW3.out.two t4 HCP.out.ne.symm (own_not_blk S3.out.own SW3.out.blk (by decide)) (own_not_blk SW3.out.own S3.out.blk (by decide)) (fun k h1 h2 => HCP.out.sep k h2 h1))
        have A4 := Lib.hid (own_apartW AW3.out S3.out t4 (by decide) (by decide))
        have hv2 := own_lt HCP.out.ws.own
        have K4 := Lib.hid (holds_own (own_keeps R3.out fun k hk => t4.block k (own_lt R3.out k hk) (fun e => own_not_blk R3.out S3.out.blk (by decide) (e ▸ hk)) (fun e => by have h9 : wo.heap.size ≤ k := (R3.out.lt k hk).1; have := hv2 k e; omega)))
        have L4 := Lib.hid (holds_own (own_keeps Q3.out fun k hk => t4.block k (own_lt Q3.out k hk) (fun e => own_not_blk Q3.out S3.out.blk (by decide) (e ▸ hk)) (fun e => by have := (Q3.out.lt k hk).1; have := hv2 k e; have h9 : wo.heap.size ≤ w2.heap.size := D2.out.size; omega)))
        clear s4 t4 hv2
        refine hK.out _ _ ⟨K4.out, L4.out⟩ (fun hHeld => ?_)
        clear hK K
        try simp only [Act.put, List.setIfInBounds_toArray, List.set_cons_zero, List.set_cons_succ]
        refine wpG_takeB (i := 21) (oi := ⟨some 132, _, _, _, _, _⟩) (v := ?_) rfl (by kernel_rfl) (by kernel_rfl) (by kernel_rfl) (by decide) (fun _ _ _ h => h) h01 rfl hHeld (Or.inl ⟨by rfl, ?_⟩) ?_
        rotate_left
        · (intro w hSw; (try dsimp only at hSw); go_simp; (try with_reducible rfl))
        try simp only [Act.put, List.setIfInBounds_toArray, List.set_cons_zero, List.set_cons_succ]
        refine wpG_takeB (i := 22) (oi := ⟨some 133, _, _, _, _, _⟩) (v := ?_) rfl (by kernel_rfl) (by kernel_rfl) (by kernel_rfl) (by decide) (fun _ _ _ h => h) h01 rfl hHeld (Or.inl ⟨by rfl, ?_⟩) ?_
        rotate_left
        · (intro w hSw; (try dsimp only at hSw); go_simp; (try with_reducible rfl))
        try simp only [Act.put, List.setIfInBounds_toArray, List.set_cons_zero, List.set_cons_succ]
        refine wpG_done (by kernel_rfl) ?_ _
        clear HNO HPN C12
        go_wp2_with fail
        obtain ⟨no, hno⟩ : ∃ k, (bs.length + 7) / 8 = k := ⟨_, rfl⟩
        have HNO := Lib.hid (show (m + 7) / 8 = no by rw [← HBL0.out, hno])
        have HPN := Lib.hid (show (pack bs).length = no by rw [pack_length, hno])
        have hbm := HBL0.out
        have h12 := out_some _ gw va bs w4.drew S4.out.drew' (by omega)
        rw [hno] at h12
        have C12 := Lib.hid h12
        have HLK := Lib.hid (show Blk w4 gw 63 #[va, .int .i64 m, .bool true] by have := S4.out.blk; rw [hbm] at this; exact this)
        clear h12 hno
        have hm5 : m ≤ 300000 := by omega
        clear hbm
        refine wp_region_G (S0 := (fun (_ : World) => True)) (S1 := (fun (_ : World) => True)) (c := 15) (by kernel_rfl) ?_
        have hHeld := True.intro
        have h01 := (fun (_ : World) (h : True) => h)
        refine wpG_takeA (i := 0) (oi := ⟨some 134, _, _, _, _, _⟩) (v := ?_) rfl (by kernel_rfl) (by kernel_rfl) (by kernel_rfl) (by decide) (fun _ _ _ h => h) h01 rfl hHeld (Or.inl ⟨by rfl, ?_⟩) ?_
        rotate_left
        · (intro w hSw; (try dsimp only at hSw); go_simp; (try with_reducible rfl))
        try simp only [Act.put, List.setIfInBounds_toArray, List.set_cons_zero, List.set_cons_succ]
        refine wpG_takeA (i := 2) (oi := ⟨some 136, _, _, _, _, _⟩) (v := ?_) rfl (by kernel_rfl) (by kernel_rfl) (by kernel_rfl) (by decide) (fun _ _ _ h => h) h01 rfl hHeld (Or.inl ⟨by rfl, ?_⟩) ?_
        rotate_left
        · (intro w hSw; (try dsimp only at hSw); go_simp; (try with_reducible rfl))
        try simp only [Act.put, List.setIfInBounds_toArray, List.set_cons_zero, List.set_cons_succ]
        refine wpG_takeA (i := 3) (oi := ⟨some 137, _, _, _, _, _⟩) (v := ?_) rfl (by kernel_rfl) (by kernel_rfl) (by kernel_rfl) (by decide) (fun _ _ _ h => h) h01 rfl hHeld (Or.inl ⟨by rfl, ?_⟩) ?_
        rotate_left
        · (intro w hSw; (try dsimp only at hSw); go_simp; (try with_reducible rfl))
        try simp only [Act.put, List.setIfInBounds_toArray, List.set_cons_zero, List.set_cons_succ]
        refine wpG_oneA (i := 1) (o := ⟨some 135, _, _, _, _, _⟩) (by kernel_rfl) rfl rfl (fun K hK => ?_)
        go_simp
        (with_reducible refine (wlen_some gw va m _ HLK.out.drew).mono ?_); rintro e w9 ⟨rfl, rfl⟩
        refine hK.out _ _ trivial (fun hHeld => ?_)
        clear hK K
        try simp only [Act.put, List.setIfInBounds_toArray, List.set_cons_zero, List.set_cons_succ]
        refine wpG_takeA (i := 4) (oi := ⟨some 138, _, _, _, _, _⟩) (v := ?_) rfl (by kernel_rfl) (by kernel_rfl) (by kernel_rfl) (by decide) (fun _ _ _ h => h) h01 rfl hHeld (Or.inl ⟨by rfl, ?_⟩) ?_
        rotate_left
        · (intro w hSw; (try dsimp only at hSw); go_simp; (try with_reducible rfl))
        try simp only [Act.put, List.setIfInBounds_toArray, List.set_cons_zero, List.set_cons_succ]
        refine wpG_takeA (i := 5) (oi := ⟨some 139, _, _, _, _, _⟩) (v := ?_) rfl (by kernel_rfl) (by kernel_rfl) (by kernel_rfl) (by decide) (fun _ _ _ h => h) h01 rfl hHeld (Or.inl ⟨by rfl, ?_⟩) ?_
        rotate_left
        · (intro w hSw; (try dsimp only at hSw); go_simp; (try with_reducible rfl))
        try simp only [Act.put, List.setIfInBounds_toArray, List.set_cons_zero, List.set_cons_succ]
        refine wpG_takeA (i := 6) (oi := ⟨some 140, _, _, _, _, _⟩) (v := ?_) rfl (by kernel_rfl) (by kernel_rfl) (by kernel_rfl) (by decide) (fun _ _ _ h => h) h01 rfl hHeld (Or.inl ⟨by rfl, ?_⟩) ?_
        rotate_left
        · (intro w hSw; (try dsimp only at hSw); go_simp; (try with_reducible rfl))
        try simp only [Act.put, List.setIfInBounds_toArray, List.set_cons_zero, List.set_cons_succ]
        refine wpG_takeA (i := 9) (oi := ⟨some 143, _, _, _, _, _⟩) (v := ?_) rfl (by kernel_rfl) (by kernel_rfl) (by kernel_rfl) (by decide) (fun _ _ _ h => h) h01 rfl hHeld (Or.inl ⟨by rfl, ?_⟩) ?_
        rotate_left
        · (intro w hSw; (try dsimp only at hSw); go_simp; (try with_reducible rfl))
        try simp only [Act.put, List.setIfInBounds_toArray, List.set_cons_zero, List.set_cons_succ]
        refine wpG_oneA (i := 7) (o := ⟨some 141, _, _, _, _, _⟩) (by kernel_rfl) rfl rfl (fun K hK => ?_)
        go_simp
        (refine C12.out.mono ?_); rintro e w5 ⟨v9, rfl, ho9, b9⟩
        obtain ⟨Ao, co, rfl⟩ := own_sl ho9
        have ha9 := own_keeps (own_drew A4.out) fun k hk => b9.block k (own_lt (own_drew A4.out) k hk)
        obtain ⟨Az, cz, ez, rb⟩ := RB.own ha9
        cases ez
        have h31 := rbytes_any Aa m ca bs w5 rb (by omega)
        rw [HNO.out] at h31
        have C31 := Lib.hid h31
        have H5 := Lib.hid (holds_own ho9)
        have D5 := Lib.hid b9
        clear ho9 b9 ha9 rb h31
        refine hK.out _ _ trivial (fun hHeld => ?_)
        clear hK K
        try simp only [Act.put, List.setIfInBounds_toArray, List.set_cons_zero, List.set_cons_succ]
        refine wpG_mono (S := (fun (w' : World) => Holds w' Ao no ((pack bs).map Ythgbnpafhkhjpaa.u8))) (c := 15) (fun _ _ => trivial) _ _ _ _ ?_
        clear hHeld h01
        have hHeld := H5.out
        have h01 := (fun (w' : World) (h : Holds w' Ao no ((pack bs).map Ythgbnpafhkhjpaa.u8)) => h)
        refine wpG_takeA (i := 8) (oi := ⟨some 142, _, _, _, _, _⟩) (v := .string ⟨(pack bs).toArray⟩) rfl (by kernel_rfl) (by kernel_rfl) (by kernel_rfl) (by decide) (fun _ _ _ h => h) h01 rfl hHeld (Or.inl ⟨by rfl, ?_⟩) ?_
        · (intro w hSw; have hcv := conv_bs (P := Try.prog) w 27 9 5 Try.underlying27 Try.underlying5 Try.underlying9 (A := Ao) (n := no) (c := co) (l := pack bs) HPN.out hSw; go_simp)
        try simp only [Act.put, List.setIfInBounds_toArray, List.set_cons_zero, List.set_cons_succ]
        refine wpG_oneA (i := 10) (o := ⟨some 144, _, _, _, _, _⟩) (by kernel_rfl) rfl rfl (fun K hK => ?_)
        go_simp
        (refine C31.out.mono ?_); rintro e w6 ⟨v8, rfl, ho8, b8⟩
        obtain ⟨Ap, cp8, rfl⟩ := own_sl ho8
        have H6 := Lib.hid (H5.out.keep b8)
        have P6 := Lib.hid (holds_own ho8)
        have D6 := Lib.hid (D5.out.trans (b8.mono D5.out.size))
        clear ho8 b8
        refine hK.out _ _ H6.out (fun hHeld => ?_)
        clear hK K
        try simp only [Act.put, List.setIfInBounds_toArray, List.set_cons_zero, List.set_cons_succ]
        refine wpG_mono (S := (fun (w' : World) => Holds w' Ao no ((pack bs).map Ythgbnpafhkhjpaa.u8) ∧ Holds w' Ap no ((pack bs).map Ythgbnpafhkhjpaa.u8))) (c := 15) (fun _ h => h.1) _ _ _ _ ?_
        clear hHeld h01
        have hHeld := And.intro H6.out P6.out
        have h01 := (fun (w' : World) (h : Holds w' Ao no ((pack bs).map Ythgbnpafhkhjpaa.u8) ∧ Holds w' Ap no ((pack bs).map Ythgbnpafhkhjpaa.u8)) => h)
        refine wpG_takeA (i := 11) (oi := ⟨some 145, _, _, _, _, _⟩) (v := .string ⟨(pack bs).toArray⟩) rfl (by kernel_rfl) (by kernel_rfl) (by kernel_rfl) (by decide) (fun _ _ _ h => h) h01 rfl hHeld (Or.inl ⟨by rfl, ?_⟩) ?_
        · (intro w hSw; have hcv := conv_bs (P := Try.prog) w 27 9 5 Try.underlying27 Try.underlying5 Try.underlying9 (A := Ap) (n := no) (c := cp8) (l := pack bs) HPN.out hSw.2; go_simp)
        try simp only [Act.put, List.setIfInBounds_toArray, List.set_cons_zero, List.set_cons_succ]
        refine wpG_takeA (i := 12) (oi := ⟨some 146, _, _, _, _, _⟩) (v := ?_) rfl (by kernel_rfl) (by kernel_rfl) (by kernel_rfl) (by decide) (fun _ _ _ h => h) h01 rfl hHeld (Or.inl ⟨by rfl, ?_⟩) ?_
        rotate_left
        · (intro w hSw; (try dsimp only at hSw); go_simp; (try with_reducible rfl))
        try simp only [Act.put, List.setIfInBounds_toArray, List.set_cons_zero, List.set_cons_succ]
        refine wpG_takeA (i := 13) (oi := ⟨some 147, _, _, _, _, _⟩) (v := ?_) rfl (by kernel_rfl) (by kernel_rfl) (by kernel_rfl) (by decide) (fun _ _ _ h => h) h01 rfl hHeld (Or.inl ⟨by rfl, ?_⟩) ?_
        rotate_left
        · (intro w hSw; (try dsimp only at hSw); go_simp; (try with_reducible rfl))
        try simp only [Act.put, List.setIfInBounds_toArray, List.set_cons_zero, List.set_cons_succ]
        refine wpG_takeA (i := 14) (oi := ⟨some 148, _, _, _, _, _⟩) (v := ?_) rfl (by kernel_rfl) (by kernel_rfl) (by kernel_rfl) (by decide) (fun _ _ _ h => h) h01 rfl hHeld (Or.inl ⟨by rfl, ?_⟩) ?_
        rotate_left
        · (intro w hSw; (try dsimp only at hSw); go_simp; (try with_reducible rfl))
        try simp only [Act.put, List.setIfInBounds_toArray, List.set_cons_zero, List.set_cons_succ]
        refine wpG_oneB (i := 15) (o := ⟨some 149, _, _, _, _, _⟩) (by kernel_rfl) rfl rfl (fun K hK => ?_)
        go_simp
        (refine (known_any w6).mono ?_); rintro e w7 ⟨rfl, b7⟩
        have B31 := Lib.hid (show Below w.heap.size w w7 from B4.out.trans (((below_drew (Below.refl w4.heap.size w4)).trans (D6.out.trans (b7.mono D6.out.size))).mono B4.out.size))
        have H7 := Lib.hid (H6.out.keep b7)
        have P7 := Lib.hid (P6.out.keep b7)
        clear b7
        refine hK.out _ _ ⟨H7.out, P7.out⟩ (fun hHeld => ?_)
        clear hK K
        try simp only [Act.put, List.setIfInBounds_toArray, List.set_cons_zero, List.set_cons_succ]
        refine wpG_takeB (i := 16) (oi := ⟨some 150, _, _, _, _, _⟩) (v := ?_) rfl (by kernel_rfl) (by kernel_rfl) (by kernel_rfl) (by decide) (fun _ _ _ h => h) h01 rfl hHeld (Or.inl ⟨by rfl, ?_⟩) ?_
        rotate_left
        · (intro w hSw; (try dsimp only at hSw); go_simp; (try with_reducible rfl))
        try simp only [Act.put, List.setIfInBounds_toArray, List.set_cons_zero, List.set_cons_succ]
        refine wpG_takeB (i := 17) (oi := ⟨some 4, _, _, _, _, _⟩) (v := ?_) rfl (by kernel_rfl) (by kernel_rfl) (by kernel_rfl) (by decide) (fun _ _ _ h => h) h01 rfl hHeld (Or.inl ⟨by rfl, ?_⟩) ?_
        rotate_left
        · (intro w hSw; (try dsimp only at hSw); go_simp; (try with_reducible rfl))
        try simp only [Act.put, List.setIfInBounds_toArray, List.set_cons_zero, List.set_cons_succ]
        refine wpG_done (by kernel_rfl) ?_ _
        go_wp2_with fail
        go_ret
        exact ⟨rfl, B31.out⟩
      · have qc : decide (cq < i) = false := by simpa using hcn
        have HBL0 := Lib.hid hbl0
        have S4 := HW
        have A4 := HA
        have B4 := HB
        obtain ⟨w4, hw4⟩ : ∃ w4 : World, w4 = wo := ⟨_, rfl⟩
        rw [← hw4] at S4 A4 B4 ⊢
        clear hbl0 hcn HC HW HA HB hw4
        go_wp2_with fail
        obtain ⟨no, hno⟩ : ∃ k, (bs.length + 7) / 8 = k := ⟨_, rfl⟩
        have HNO := Lib.hid (show (m + 7) / 8 = no by rw [← HBL0.out, hno])
        have HPN := Lib.hid (show (pack bs).length = no by rw [pack_length, hno])
        have hbm := HBL0.out
        have h12 := out_some _ gw va bs w4.drew S4.out.drew' (by omega)
        rw [hno] at h12
        have C12 := Lib.hid h12
        have HLK := Lib.hid (show Blk w4 gw 63 #[va, .int .i64 m, .bool true] by have := S4.out.blk; rw [hbm] at this; exact this)
        clear h12 hno
        have hm5 : m ≤ 300000 := by omega
        clear hbm
        refine wp_region_G (S0 := (fun (_ : World) => True)) (S1 := (fun (_ : World) => True)) (c := 15) (by kernel_rfl) ?_
        have hHeld := True.intro
        have h01 := (fun (_ : World) (h : True) => h)
        refine wpG_takeA (i := 0) (oi := ⟨some 134, _, _, _, _, _⟩) (v := ?_) rfl (by kernel_rfl) (by kernel_rfl) (by kernel_rfl) (by decide) (fun _ _ _ h => h) h01 rfl hHeld (Or.inl ⟨by rfl, ?_⟩) ?_
        rotate_left
        · (intro w hSw; (try dsimp only at hSw); go_simp; (try with_reducible rfl))
        try simp only [Act.put, List.setIfInBounds_toArray, List.set_cons_zero, List.set_cons_succ]
        refine wpG_takeA (i := 2) (oi := ⟨some 136, _, _, _, _, _⟩) (v := ?_) rfl (by kernel_rfl) (by kernel_rfl) (by kernel_rfl) (by decide) (fun _ _ _ h => h) h01 rfl hHeld (Or.inl ⟨by rfl, ?_⟩) ?_
        rotate_left
        · (intro w hSw; (try dsimp only at hSw); go_simp; (try with_reducible rfl))
        try simp only [Act.put, List.setIfInBounds_toArray, List.set_cons_zero, List.set_cons_succ]
        refine wpG_takeA (i := 3) (oi := ⟨some 137, _, _, _, _, _⟩) (v := ?_) rfl (by kernel_rfl) (by kernel_rfl) (by kernel_rfl) (by decide) (fun _ _ _ h => h) h01 rfl hHeld (Or.inl ⟨by rfl, ?_⟩) ?_
        rotate_left
        · (intro w hSw; (try dsimp only at hSw); go_simp; (try with_reducible rfl))
        try simp only [Act.put, List.setIfInBounds_toArray, List.set_cons_zero, List.set_cons_succ]
        refine wpG_oneA (i := 1) (o := ⟨some 135, _, _, _, _, _⟩) (by kernel_rfl) rfl rfl (fun K hK => ?_)
        go_simp
        (with_reducible refine (wlen_some gw va m _ HLK.out.drew).mono ?_); rintro e w9 ⟨rfl, rfl⟩
        refine hK.out _ _ trivial (fun hHeld => ?_)
        clear hK K
        try simp only [Act.put, List.setIfInBounds_toArray, List.set_cons_zero, List.set_cons_succ]
        refine wpG_takeA (i := 4) (oi := ⟨some 138, _, _, _, _, _⟩) (v := ?_) rfl (by kernel_rfl) (by kernel_rfl) (by kernel_rfl) (by decide) (fun _ _ _ h => h) h01 rfl hHeld (Or.inl ⟨by rfl, ?_⟩) ?_
        rotate_left
        · (intro w hSw; (try dsimp only at hSw); go_simp; (try with_reducible rfl))
        try simp only [Act.put, List.setIfInBounds_toArray, List.set_cons_zero, List.set_cons_succ]
        refine wpG_takeA (i := 5) (oi := ⟨some 139, _, _, _, _, _⟩) (v := ?_) rfl (by kernel_rfl) (by kernel_rfl) (by kernel_rfl) (by decide) (fun _ _ _ h => h) h01 rfl hHeld (Or.inl ⟨by rfl, ?_⟩) ?_
        rotate_left
        · (intro w hSw; (try dsimp only at hSw); go_simp; (try with_reducible rfl))
        try simp only [Act.put, List.setIfInBounds_toArray, List.set_cons_zero, List.set_cons_succ]
        refine wpG_takeA (i := 6) (oi := ⟨some 140, _, _, _, _, _⟩) (v := ?_) rfl (by kernel_rfl) (by kernel_rfl) (by kernel_rfl) (by decide) (fun _ _ _ h => h) h01 rfl hHeld (Or.inl ⟨by rfl, ?_⟩) ?_
        rotate_left
        · (intro w hSw; (try dsimp only at hSw); go_simp; (try with_reducible rfl))
        try simp only [Act.put, List.setIfInBounds_toArray, List.set_cons_zero, List.set_cons_succ]
        refine wpG_takeA (i := 9) (oi := ⟨some 143, _, _, _, _, _⟩) (v := ?_) rfl (by kernel_rfl) (by kernel_rfl) (by kernel_rfl) (by decide) (fun _ _ _ h => h) h01 rfl hHeld (Or.inl ⟨by rfl, ?_⟩) ?_
        rotate_left
        · (intro w hSw; (try dsimp only at hSw); go_simp; (try with_reducible rfl))
        try simp only [Act.put, List.setIfInBounds_toArray, List.set_cons_zero, List.set_cons_succ]
        refine wpG_oneA (i := 7) (o := ⟨some 141, _, _, _, _, _⟩) (by kernel_rfl) rfl rfl (fun K hK => ?_)
        go_simp
        (refine C12.out.mono ?_); rintro e w5 ⟨v9, rfl, ho9, b9⟩
        obtain ⟨Ao, co, rfl⟩ := own_sl ho9
        have ha9 := own_keeps (own_drew A4.out) fun k hk => b9.block k (own_lt (own_drew A4.out) k hk)
        obtain ⟨Az, cz, ez, rb⟩ := RB.own ha9
        cases ez
        have h31 := rbytes_any Aa m ca bs w5 rb (by omega)
        rw [HNO.out] at h31
        have C31 := Lib.hid h31
        have H5 := Lib.hid (holds_own ho9)
        have D5 := Lib.hid b9
        clear ho9 b9 ha9 rb h31
        refine hK.out _ _ trivial (fun hHeld => ?_)
        clear hK K
        try simp only [Act.put, List.setIfInBounds_toArray, List.set_cons_zero, List.set_cons_succ]
        refine wpG_mono (S := (fun (w' : World) => Holds w' Ao no ((pack bs).map Ythgbnpafhkhjpaa.u8))) (c := 15) (fun _ _ => trivial) _ _ _ _ ?_
        clear hHeld h01
        have hHeld := H5.out
        have h01 := (fun (w' : World) (h : Holds w' Ao no ((pack bs).map Ythgbnpafhkhjpaa.u8)) => h)
        refine wpG_takeA (i := 8) (oi := ⟨some 142, _, _, _, _, _⟩) (v := .string ⟨(pack bs).toArray⟩) rfl (by kernel_rfl) (by kernel_rfl) (by kernel_rfl) (by decide) (fun _ _ _ h => h) h01 rfl hHeld (Or.inl ⟨by rfl, ?_⟩) ?_
        · (intro w hSw; have hcv := conv_bs (P := Try.prog) w 27 9 5 Try.underlying27 Try.underlying5 Try.underlying9 (A := Ao) (n := no) (c := co) (l := pack bs) HPN.out hSw; go_simp)
        try simp only [Act.put, List.setIfInBounds_toArray, List.set_cons_zero, List.set_cons_succ]
        refine wpG_oneA (i := 10) (o := ⟨some 144, _, _, _, _, _⟩) (by kernel_rfl) rfl rfl (fun K hK => ?_)
        go_simp
        (refine C31.out.mono ?_); rintro e w6 ⟨v8, rfl, ho8, b8⟩
        obtain ⟨Ap, cp8, rfl⟩ := own_sl ho8
        have H6 := Lib.hid (H5.out.keep b8)
        have P6 := Lib.hid (holds_own ho8)
        have D6 := Lib.hid (D5.out.trans (b8.mono D5.out.size))
        clear ho8 b8
        refine hK.out _ _ H6.out (fun hHeld => ?_)
        clear hK K
        try simp only [Act.put, List.setIfInBounds_toArray, List.set_cons_zero, List.set_cons_succ]
        refine wpG_mono (S := (fun (w' : World) => Holds w' Ao no ((pack bs).map Ythgbnpafhkhjpaa.u8) ∧ Holds w' Ap no ((pack bs).map Ythgbnpafhkhjpaa.u8))) (c := 15) (fun _ h => h.1) _ _ _ _ ?_
        clear hHeld h01
        have hHeld := And.intro H6.out P6.out
        have h01 := (fun (w' : World) (h : Holds w' Ao no ((pack bs).map Ythgbnpafhkhjpaa.u8) ∧ Holds w' Ap no ((pack bs).map Ythgbnpafhkhjpaa.u8)) => h)
        refine wpG_takeA (i := 11) (oi := ⟨some 145, _, _, _, _, _⟩) (v := .string ⟨(pack bs).toArray⟩) rfl (by kernel_rfl) (by kernel_rfl) (by kernel_rfl) (by decide) (fun _ _ _ h => h) h01 rfl hHeld (Or.inl ⟨by rfl, ?_⟩) ?_
        · (intro w hSw; have hcv := conv_bs (P := Try.prog) w 27 9 5 Try.underlying27 Try.underlying5 Try.underlying9 (A := Ap) (n := no) (c := cp8) (l := pack bs) HPN.out hSw.2; go_simp)
        try simp only [Act.put, List.setIfInBounds_toArray, List.set_cons_zero, List.set_cons_succ]
        refine wpG_takeA (i := 12) (oi := ⟨some 146, _, _, _, _, _⟩) (v := ?_) rfl (by kernel_rfl) (by kernel_rfl) (by kernel_rfl) (by decide) (fun _ _ _ h => h) h01 rfl hHeld (Or.inl ⟨by rfl, ?_⟩) ?_
        rotate_left
        · (intro w hSw; (try dsimp only at hSw); go_simp; (try with_reducible rfl))
        try simp only [Act.put, List.setIfInBounds_toArray, List.set_cons_zero, List.set_cons_succ]
        refine wpG_takeA (i := 13) (oi := ⟨some 147, _, _, _, _, _⟩) (v := ?_) rfl (by kernel_rfl) (by kernel_rfl) (by kernel_rfl) (by decide) (fun _ _ _ h => h) h01 rfl hHeld (Or.inl ⟨by rfl, ?_⟩) ?_
        rotate_left
        · (intro w hSw; (try dsimp only at hSw); go_simp; (try with_reducible rfl))
        try simp only [Act.put, List.setIfInBounds_toArray, List.set_cons_zero, List.set_cons_succ]
        refine wpG_takeA (i := 14) (oi := ⟨some 148, _, _, _, _, _⟩) (v := ?_) rfl (by kernel_rfl) (by kernel_rfl) (by kernel_rfl) (by decide) (fun _ _ _ h => h) h01 rfl hHeld (Or.inl ⟨by rfl, ?_⟩) ?_
        rotate_left
        · (intro w hSw; (try dsimp only at hSw); go_simp; (try with_reducible rfl))
        try simp only [Act.put, List.setIfInBounds_toArray, List.set_cons_zero, List.set_cons_succ]
        refine wpG_oneB (i := 15) (o := ⟨some 149, _, _, _, _, _⟩) (by kernel_rfl) rfl rfl (fun K hK => ?_)
        go_simp
        (refine (known_any w6).mono ?_); rintro e w7 ⟨rfl, b7⟩
        have B31 := Lib.hid (show Below w.heap.size w w7 from B4.out.trans (((below_drew (Below.refl w4.heap.size w4)).trans (D6.out.trans (b7.mono D6.out.size))).mono B4.out.size))
        have H7 := Lib.hid (H6.out.keep b7)
        have P7 := Lib.hid (P6.out.keep b7)
        clear b7
        refine hK.out _ _ ⟨H7.out, P7.out⟩ (fun hHeld => ?_)
        clear hK K
        try simp only [Act.put, List.setIfInBounds_toArray, List.set_cons_zero, List.set_cons_succ]
        refine wpG_takeB (i := 16) (oi := ⟨some 150, _, _, _, _, _⟩) (v := ?_) rfl (by kernel_rfl) (by kernel_rfl) (by kernel_rfl) (by decide) (fun _ _ _ h => h) h01 rfl hHeld (Or.inl ⟨by rfl, ?_⟩) ?_
        rotate_left
        · (intro w hSw; (try dsimp only at hSw); go_simp; (try with_reducible rfl))
        try simp only [Act.put, List.setIfInBounds_toArray, List.set_cons_zero, List.set_cons_succ]
        refine wpG_takeB (i := 17) (oi := ⟨some 4, _, _, _, _, _⟩) (v := ?_) rfl (by kernel_rfl) (by kernel_rfl) (by kernel_rfl) (by decide) (fun _ _ _ h => h) h01 rfl hHeld (Or.inl ⟨by rfl, ?_⟩) ?_
        rotate_left
        · (intro w hSw; (try dsimp only at hSw); go_simp; (try with_reducible rfl))
        try simp only [Act.put, List.setIfInBounds_toArray, List.set_cons_zero, List.set_cons_succ]
        refine wpG_done (by kernel_rfl) ?_ _
        go_wp2_with fail
        go_ret
        exact ⟨rfl, B31.out⟩
theorem writes_law (A : Option Addr) (n c : Nat) (f : Nat → ActV) (cp : Int) (w : World) (hs : ActS w A n f) (hw : (Lit.int .u8 cp).wf = true) :
    Calls Try.prog 6 #[.slice A n c, .int .u8 cp] w fun e w' => e = .returned (.bool true) ∧ Below w.heap.size w w' :=
  writes_any A n c f cp w hs (byte_wf hw).1 (byte_wf hw).2
end Go.Proofs.Ythgbnpafhkhjpaa

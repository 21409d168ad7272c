/- The walk of BitsReads. -/
import Derived.Test.YthgbnpafhkhjpaaRr
import Derived.Test.YthgbnpafhkhjpaaL4
import Derived.Test.YthgbnpafhkhjpaaCp
import Derived.Test.YthgbnpafhkhjpaaBmp
import Derived.Test.YthgbnpafhkhjpaaFr
namespace Go.Proofs.Ythgbnpafhkhjpaa
open Go.RowKit
set_option linter.unusedVariables false
set_option linter.unusedSimpArgs false

theorem RS.two {w w' : World} {B g g2 p : Nat} {v : Value} {l : List UInt8} (h : RS w B g v l p) (hb : Two g2 (.slice none 0 0) w w') (hne : g ≠ g2) (hv : v.ownBlock ≠ some g2) : RS w' B g v l p :=
  ⟨h.blk.two hb hne, own_two h.own hb hv, Nat.le_trans h.base hb.size, h.place, h.small⟩
theorem RS.weak {w : World} {B B' g p : Nat} {v : Value} {l : List UInt8} (h : RS w B g v l p) (hB : B' ≤ B) : RS w B' g v l p := ⟨h.blk, own_base h.own hB, Nat.le_trans hB h.base, h.place, h.small⟩
theorem RS.grown {w w' : World} {B g p : Nat} {v : Value} {l : List UInt8} {row : Option Nat} (h : RS w B g v l p) (hg : w.grownBy w' row) (h1 : some g ≠ row) (h2 : ∀ k, v.ownBlock = some k → some k ≠ row) : RS w' B g v l p :=
  ⟨h.blk.grown hg h1, own_keeps h.own fun k hk => hg.block k (own_lt h.own k hk) (h2 k hk), Nat.le_trans h.base hg.size, h.place, h.small⟩
/-- The copy, made or not. -/
def CopyS (B : Nat) (W : World) (g : Nat) (l : List UInt8) (i cp : Nat) (ov ev : Value) : Prop :=
  (i ≤ cp ∧ ov = .pointer none ∧ ev = .int .i64 0) ∨ (cp < i ∧ ∃ (g2 : Nat) (v2 : Value) (pe : Nat), ov = .pointer (some ⟨g2, 0, none⟩) ∧ ev = .int .i64 pe ∧ g2 ≠ g ∧ B ≤ g2 ∧ RS W B g2 v2 l pe)
theorem CopyS.two {B g i cp : Nat} {W W' : World} {l : List UInt8} {ov ev : Value} {cs : Array Value} (h : CopyS B W g l i cp ov ev) (hg : Blk W g 66 cs) (ht : Two g (.slice none 0 0) W W') : CopyS B W' g l i cp ov ev := by
  rcases h with h | ⟨h1, g2, v2, pe, h2, h3, h4, h6, h5⟩
  · exact .inl h
  · exact .inr ⟨h1, g2, v2, pe, h2, h3, h4, h6, h5.two ht h4 (own_not_blk h5.own hg (by decide))⟩
theorem rdw_of {l : List UInt8} {p p2 nB : Nat} {X : ActV} {V E : Int} {w w' : World} {e : Ending} (h : RdR l p X w e w') (h1 : p + rdN l p X = p2) (h2 : (rdV l p X : Int) = V) (h3 : rdE l p X = E) (h4 : (rdB l p X).length = nB) : RdW p2 V E nB ((rdB l p X).map u8) w e w' := by
  subst h1 h2 h3 h4
  exact h
theorem CopyS.next {B g i cp : Nat} {W : World} {l : List UInt8} {ov ev : Value} (h : CopyS B W g l i cp ov ev) (hne : i ≠ cp) : CopyS B W g l (i + 1) cp ov ev := by
  rcases h with ⟨h1, h2⟩ | ⟨h1, h2⟩
  · exact .inl ⟨by omega, h2⟩
  · exact .inr ⟨by omega, h2⟩

set_option maxRecDepth 100000 in
set_option maxHeartbeats 8000000 in
theorem reads_any (A0 : Option Addr) (n0 c0 : Nat) (l : List UInt8) (A : Option Addr) (n c : Nat) (f : Nat → ActV) (cp : Int) (w : World) (hl : l.length = n0) (hb0 : Holds w A0 n0 (l.map u8)) (hs : ActS w A n f) (hcp0 : 0 ≤ cp) (hcp1 : cp < 256) :
    Calls Try.prog 5 #[.slice A0 n0 c0, .slice A n c, .int .u8 cp] w fun e w' => e = .returned (.bool true) ∧ Below w.heap.size w w' := by
  have HS := Lib.hid hs
  have HB0 := Lib.hid hb0
  have HL := Lib.hid hl
  have KN := Lib.hid (known_over w)
  clear hs hb0 hl
  by_cases h60 : 60 < (n : Int)
  · have q0 : decide (60 < (n : Int)) = true := by simpa using h60
    clear h60
    go_enter Try.func5, Try.ntmps5
    go_wp2_with (go_at_call 9; (with_reducible refine (KN.out _ (Below.refl _ _)).mono ?_); rintro e w9 ⟨rfl, b9⟩; have B9 := Lib.hid b9; clear b9)
    go_ret
    exact ⟨rfl, B9.out⟩
  have q0 : decide (60 < (n : Int)) = false := by simpa using h60
  by_cases h100 : 100 < (n0 : Int)
  · have q1 : decide (100 < (n0 : Int)) = true := by simpa using h100
    clear h60 h100
    go_enter Try.func5, Try.ntmps5
    go_wp2_with (go_at_call 9; (with_reducible refine (KN.out _ (Below.refl _ _)).mono ?_); rintro e w9 ⟨rfl, b9⟩; have B9 := Lib.hid b9; clear b9)
    go_ret
    exact ⟨rfl, B9.out⟩
  have q1 : decide (100 < (n0 : Int)) = false := by simpa using h100
  have hn60 : (n : Int) ≤ 60 := by omega
  have hn0 : (n0 : Int) ≤ 100 := by omega
  clear h60 h100
  go_enter Try.func5, Try.ntmps5
  go_wp2_with (first
    | (at_builtin; go_must (refine wpList_app_own (base := w.heap.size) (n := 0) (m := n0) (xs := []) (news := l.map Ythgbnpafhkhjpaa.u8) rfl (.tmp 33) (.tmp 34) 27 rfl el27 rfl (own_none00 w 5) rfl (HB0.out.alloc _) (u8_one _) (by unfold maxLen; omega) (by omega) (by simp) ?_; intro v1 w1 hown hg hat; rw [Nat.zero_add, List.nil_append] at hown; obtain ⟨A1, c1, rfl, -, -, h01, -⟩ := own_form hown; have C14 := Lib.hid (newReader_ok A1 n0 c1 l w1 (by omega) (holds_own hown) (fun h => (h01 h).2)); have HO := Lib.hid hown; have HB := Lib.hid (below_own ((Below.refl w.heap.size w).alloc (Nat.le_refl _) _) (by simp) (own_none00 w 5) hg); clear hown hg hat h01))
    | (go_at_call 14; (with_reducible refine C14.out.mono ?_); rintro e w2 ⟨g, rv, rfl, hg2, r2, b2, -⟩; have HR := Lib.hid (r2.weak HB.out.size); have HB2 := Lib.hid (HB.out.trans (b2.mono HB.out.size)); have HBY := Lib.hid (ByteRow.of (own_keeps HO.out fun k hk => b2.block k (own_lt HO.out k hk))); have HV := Lib.hid (show ∀ k, rv.ownBlock = some k → w1.heap.size ≤ k from fun k hk => (r2.own.lt k hk).1); have HG := Lib.hid hg2; clear r2 b2 hg2))
  clear q0 q1 C14
  have HLT := Lib.hid (own_lt HO.out)
  go_loopw [10] (fun kk wr => ∃ k : Nat, (k : Int) ≤ n0 ∧ kk = .int .i64 k ∧ Hid (ByteRow wr w.heap.size (.slice A1 n0 c1) n0) ∧ Hid (w2.grownBy wr (Value.slice A1 n0 c1).ownBlock)) (fun kk _ => n0 - (intOf kk).toNat)
  case atStart => exact ⟨0, by omega, rfl, HBY, Lib.hid (World.grownBy.refl _ _)⟩
  case round =>
    obtain ⟨k, hk, rfl, HY, HGR⟩ := hrel
    have hk0 : (0 : Int) ≤ k := by omega
    by_cases hlt : (k : Int) < n0
    · obtain ⟨gu, cu, x, hv, hc, hx0, hx1, hf⟩ := HY.out.cell (k := k) (by omega)
      cases hv
      go_wp2_with fail
      go_roundw
      case rel => exact ⟨k + 1, by omega, by go_num, Lib.hid (HY.out.store (by omega) (by omega)), Lib.hid (grown_set HGR.out _ _)⟩
      case measure => simp [intOf]; omega
    · have hr2 := HR.out.grown HGR.out (fun e => by have := HLT.out g e.symm; have := HG.out; omega) (fun k hk e => by have := HV.out k hk; have := HLT.out k e.symm; omega)
      have hbw := HB2.out.trans (HBY.out.below HB2.out.size HGR.out)
      have HR2 := Lib.hid hr2
      have HBW := Lib.hid hbw
      have h25 := rof_any A0 n0 c0 l wr (HB0.out.keep hbw) (by omega)
      obtain ⟨m, hm⟩ : ∃ m, 8 * n0 = m := ⟨_, rfl⟩
      rw [hm] at h25
      have HM := Lib.hid (show 8 * l.length = m by rw [HL.out, hm])
      have hm8 : (m : Int) ≤ 800 := by omega
      have C25 := Lib.hid h25
      clear hm h25
      have HGL0 := Lib.hid (show w.heap.size ≤ g from Nat.le_trans HB.out.size HG.out)
      clear hr2 hbw HGR HY HR HB2 HBY HO HB HLT hk hk0
      go_wp2_with (first
        | (go_at_call 25; (with_reducible refine C25.out.mono ?_); rintro e w3 ⟨va, rfl, ho, b3⟩; obtain ⟨Aa, ca, rfl, -⟩ := own_form ho; have HA := Lib.hid (own_base ho HBW.out.size); have HR3 := Lib.hid (HR2.out.over b3); have HB3 := Lib.hid (HBW.out.trans (b3.mono HBW.out.size)); clear ho b3))
      have HGL := Lib.hid (show w.heap.size ≤ g from HGL0.out)
      obtain ⟨cq, rfl⟩ := Int.eq_ofNat_of_zero_le hcp0
      clear hlt HR2 HBW C25
      go_loopw [12, 13, 14, 15] (fun oo aa ee ii wr => ∃ (i p : Nat), (i : Int) ≤ n ∧ ii = .int .i64 i ∧ aa = .int .i64 p ∧ p ≤ m ∧ Hid (RS wr w.heap.size g rv l p) ∧ Hid (CopyS w.heap.size wr g l i cq oo ee) ∧ Hid (wr.ownsRow w.heap.size 4 1 (.slice Aa m ca) m ((ubits l).map Value.bool)) ∧ Hid (Below w.heap.size w wr)) (fun _ _ _ ii _ => n - (intOf ii).toNat)
      case atStart => exact ⟨0, 0, by omega, rfl, rfl, by omega, HR3, Lib.hid (.inl ⟨by omega, rfl, rfl⟩), HA, HB3⟩
      clear HR3 HA HB3
      case round =>
        obtain ⟨i, p, hi, rfl, rfl, hpm, HR, HC, HA, HB⟩ := hrel
        have hi0 : (0 : Int) ≤ i := by omega
        obtain ⟨wo, rfl⟩ : ∃ wo : World, wo = wr := ⟨_, rfl⟩
        by_cases hlt : (i : Int) < n
        · obtain ⟨b, o, rfl, hbl, hcl, hX⟩ := HS.out.2 i (by omega)
          generalize f i = X at *
          by_cases hic : i = cq
          · subst hic
            have C26 := Lib.hid (rcopy_some _ g rv l p wo HR.out)
            clear HC
            go_wp2_with (go_at_call 26; (with_reducible refine C26.out.mono ?_); rintro e wc ⟨g', v', rfl, hg', rc, bc⟩; refine Hid.out ?_)
            refine Lib.hid ?_
            have HC2 := Lib.hid (show CopyS w.heap.size wc g l (i + 1) i (.pointer (some ⟨g', 0, none⟩)) (.int .i64 p) from .inr ⟨by omega, g', v', p, rfl, rfl, by have := HR.out.blk.lt; omega, Nat.le_trans HB.out.size hg', rc.weak HB.out.size⟩)
            have HR2 := Lib.hid (HR.out.over bc)
            have HA2 := Lib.hid (own_keeps HA.out fun k hk => bc.block k (own_lt HA.out k hk))
            have HB2 := Lib.hid (HB.out.trans (bc.mono HB.out.size))
            clear rc bc HR HA HB C26 hg'
            obtain ⟨k1, k2, k3, k4⟩ := hcl.keepc HB2.out hbl
            have CR := Lib.hid (lread_rs _ g rv l p X wc HR2.out hX.k0 hX.k1)
            obtain ⟨p2, hp2⟩ : ∃ q, p + rdN l p X = q := ⟨_, rfl⟩
            have hpl := rd_place (X := X) (l := l) (p := p) (by rw [HM.out]; exact hpm) hX.k0
            rw [hp2, HM.out] at hpl
            obtain ⟨nB, hnB⟩ : ∃ k, (rdB l p X).length = k := ⟨_, rfl⟩
            obtain ⟨Vx, hVx⟩ : ∃ v : Int, (rdV l p X : Int) = v := ⟨_, rfl⟩
            obtain ⟨Ex, hEx⟩ : ∃ v : Int, rdE l p X = v := ⟨_, rfl⟩
            have HP2 := Lib.hid hp2
            have HNB := Lib.hid hnB
            have HVX := Lib.hid hVx
            have HEX := Lib.hid hEx
            have HX := Lib.hid hX
            have HCL := Lib.hid hcl
            have h28 := fun (W : World) (h : RB W Aa m ca (ubits l)) => (reading_any Aa ca p l X W (by rw [HM.out]; exact h) (by have := HL.out; omega) (by rw [HM.out]; exact hpm) hX.k0).mono fun e w' h => rdw_of h hp2 hVx hEx hnB
            rw [HM.out] at h28
            have H28 := Lib.hid h28
            clear hp2 hnB hVx hEx hX hcl h28
            go_wp2_with (first
              | (go_at_call 27; (with_reducible refine CR.out.mono ?_); rintro e w4 ⟨x, u, E, rfl, hx, hE, ho, r4, t4⟩; rw [HVX.out] at hx; rw [HEX.out] at hE; subst hx hE; rw [HNB.out] at ho; rw [HP2.out] at r4; obtain ⟨Au, cu, rfl, hn1, hn2, -⟩ := own_form ho; have hnb2 : (nB : Int) ≤ 9223372036854775807 := (by unfold maxLen at hn2; omega); clear hn1 hn2; have B4 := Lib.hid (t4.below_of HB2.out HGL.out); have HU := Lib.hid ho; have R4 := Lib.hid r4; have T4 := Lib.hid t4; have HA4 := Lib.hid (own_two HA2.out t4 (own_not_blk HA2.out HR2.out.blk (by decide))); clear ho r4 t4 k1 k2 k3 k4; obtain ⟨k1, k2, k3, k4⟩ := HCL.out.keepc B4.out hbl; obtain ⟨Az, cz, ez, rb⟩ := RB.own HA4.out; cases ez; have C28 := Lib.hid (H28.out w4 rb); clear rb)
              | (go_at_call 28; (with_reducible refine C28.out.mono ?_); rintro e w5 ⟨y, rfl, hy, b5⟩; obtain ⟨Ay, cy, rfl, -⟩ := own_form hy; have cv1 := conv_bs (P := Try.prog) w5 27 9 5 Try.underlying27 Try.underlying5 Try.underlying9 (c := cu) HNB.out ((holds_own HU.out).keep b5); have cv2 := conv_bs (P := Try.prog) w5 27 9 5 Try.underlying27 Try.underlying5 Try.underlying9 (c := cy) HNB.out (holds_own hy); have R5 := Lib.hid (R4.out.over b5); have T5 := Lib.hid (T4.out.below (b5.mono T4.out.size)); have HU5 := Lib.hid (own_keeps HU.out fun k hk => b5.block k (own_lt HU.out k hk)); clear hy b5)
              | (go_at_call 23; (with_reducible refine (rplace_some g rv _ _ _ R5.out.blk).mono ?_); rintro e w6 ⟨rfl, rfl⟩)
              | (go_at_call 24; (with_reducible refine (rleft_some g rv m p2 _ (by omega) hpl (by have := R5.out.blk; rw [HM.out] at this; exact this)).mono ?_); rintro e w6 ⟨rfl, b6⟩; have R6 := Lib.hid (R5.out.over b6); have T6 := Lib.hid (T5.out.below (b6.mono T5.out.size)); have HU6 := Lib.hid (ByteRow.of (own_keeps HU5.out fun k hk => b6.block k (own_lt HU5.out k hk))); clear b6))
            clear k1 k2 k3 k4 cv1 cv2
            go_loopw [23] (fun kk wr => ∃ q : Nat, (q : Int) ≤ nB ∧ kk = .int .i64 q ∧ Hid (ByteRow wr wc.heap.size (.slice Au nB cu) nB) ∧ Hid (w6.grownBy wr (Value.slice Au nB cu).ownBlock)) (fun kk _ => nB - (intOf kk).toNat)
            case atStart => exact ⟨0, by omega, rfl, HU6, Lib.hid (World.grownBy.refl _ _)⟩
            case round =>
              obtain ⟨q, hq, rfl, HY, HGR⟩ := hrel
              have hq0 : (0 : Int) ≤ q := by omega
              by_cases hlt : (q : Int) < nB
              · obtain ⟨gu, cap, x, hv, hc, hx0, hx1, hf⟩ := HY.out.cell (k := q) (by omega)
                cases hv
                go_wp2_with fail
                go_roundw
                case rel => exact ⟨q + 1, by omega, by go_num, Lib.hid (HY.out.store (by omega) (by omega)), Lib.hid (grown_set HGR.out _ _)⟩
                case measure => simp [intOf]; omega
              · have hbump := HU6.out.below T6.out.size HGR.out
                have T := T6.out.below hbump
                have R9 := Lib.hid (R6.out.low hbump HR2.out.blk.lt fun k hk => own_lt HR2.out.own k hk)
                have C9 := Lib.hid (HC2.out.two HR2.out.blk T)
                have A9 := Lib.hid (own_two HA2.out T (own_not_blk HA2.out HR2.out.blk (by decide)))
                have B9 := Lib.hid (T.below_of HB2.out HGL.out)
                clear hbump T
                go_wp2_with fail
                go_roundw
                case rel => exact ⟨i + 1, p2, by omega, by go_num, rfl, hpl, R9, C9, A9, B9⟩
                case measure => simp [intOf]; omega
          · have q5 : ((i : Int) == (cq : Int)) = false := by simp; omega
            have HC2 := Lib.hid (HC.out.next hic)
            have HR2 := HR
            have HA2 := HA
            have HB2 := HB
            clear HR HA HB HC hic
            obtain ⟨k1, k2, k3, k4⟩ := hcl.keepc HB2.out hbl
            have CR := Lib.hid (lread_rs _ g rv l p X wo HR2.out hX.k0 hX.k1)
            obtain ⟨p2, hp2⟩ : ∃ q, p + rdN l p X = q := ⟨_, rfl⟩
            have hpl := rd_place (X := X) (l := l) (p := p) (by rw [HM.out]; exact hpm) hX.k0
            rw [hp2, HM.out] at hpl
            obtain ⟨nB, hnB⟩ : ∃ k, (rdB l p X).length = k := ⟨_, rfl⟩
            obtain ⟨Vx, hVx⟩ : ∃ v : Int, (rdV l p X : Int) = v := ⟨_, rfl⟩
            obtain ⟨Ex, hEx⟩ : ∃ v : Int, rdE l p X = v := ⟨_, rfl⟩
            have HP2 := Lib.hid hp2
            have HNB := Lib.hid hnB
            have HVX := Lib.hid hVx
            have HEX := Lib.hid hEx
            have HX := Lib.hid hX
            have HCL := Lib.hid hcl
            have h28 := fun (W : World) (h : RB W Aa m ca (ubits l)) => (reading_any Aa ca p l X W (by rw [HM.out]; exact h) (by have := HL.out; omega) (by rw [HM.out]; exact hpm) hX.k0).mono fun e w' h => rdw_of h hp2 hVx hEx hnB
            rw [HM.out] at h28
            have H28 := Lib.hid h28
            clear hp2 hnB hVx hEx hX hcl h28
            go_wp2_with (first
              | (go_at_call 27; (with_reducible refine CR.out.mono ?_); rintro e w4 ⟨x, u, E, rfl, hx, hE, ho, r4, t4⟩; rw [HVX.out] at hx; rw [HEX.out] at hE; subst hx hE; rw [HNB.out] at ho; rw [HP2.out] at r4; obtain ⟨Au, cu, rfl, hn1, hn2, -⟩ := own_form ho; have hnb2 : (nB : Int) ≤ 9223372036854775807 := (by unfold maxLen at hn2; omega); clear hn1 hn2; have B4 := Lib.hid (t4.below_of HB2.out HGL.out); have HU := Lib.hid ho; have R4 := Lib.hid r4; have T4 := Lib.hid t4; have HA4 := Lib.hid (own_two HA2.out t4 (own_not_blk HA2.out HR2.out.blk (by decide))); clear ho r4 t4 k1 k2 k3 k4; obtain ⟨k1, k2, k3, k4⟩ := HCL.out.keepc B4.out hbl; obtain ⟨Az, cz, ez, rb⟩ := RB.own HA4.out; cases ez; have C28 := Lib.hid (H28.out w4 rb); clear rb)
              | (go_at_call 28; (with_reducible refine C28.out.mono ?_); rintro e w5 ⟨y, rfl, hy, b5⟩; obtain ⟨Ay, cy, rfl, -⟩ := own_form hy; have cv1 := conv_bs (P := Try.prog) w5 27 9 5 Try.underlying27 Try.underlying5 Try.underlying9 (c := cu) HNB.out ((holds_own HU.out).keep b5); have cv2 := conv_bs (P := Try.prog) w5 27 9 5 Try.underlying27 Try.underlying5 Try.underlying9 (c := cy) HNB.out (holds_own hy); have R5 := Lib.hid (R4.out.over b5); have T5 := Lib.hid (T4.out.below (b5.mono T4.out.size)); have HU5 := Lib.hid (own_keeps HU.out fun k hk => b5.block k (own_lt HU.out k hk)); clear hy b5)
              | (go_at_call 23; (with_reducible refine (rplace_some g rv _ _ _ R5.out.blk).mono ?_); rintro e w6 ⟨rfl, rfl⟩)
              | (go_at_call 24; (with_reducible refine (rleft_some g rv m p2 _ (by omega) hpl (by have := R5.out.blk; rw [HM.out] at this; exact this)).mono ?_); rintro e w6 ⟨rfl, b6⟩; have R6 := Lib.hid (R5.out.over b6); have T6 := Lib.hid (T5.out.below (b6.mono T5.out.size)); have HU6 := Lib.hid (ByteRow.of (own_keeps HU5.out fun k hk => b6.block k (own_lt HU5.out k hk))); clear b6))
            clear k1 k2 k3 k4 cv1 cv2
            go_loopw [23] (fun kk wr => ∃ q : Nat, (q : Int) ≤ nB ∧ kk = .int .i64 q ∧ Hid (ByteRow wr wo.heap.size (.slice Au nB cu) nB) ∧ Hid (w6.grownBy wr (Value.slice Au nB cu).ownBlock)) (fun kk _ => nB - (intOf kk).toNat)
            case atStart => exact ⟨0, by omega, rfl, HU6, Lib.hid (World.grownBy.refl _ _)⟩
            case round =>
              obtain ⟨q, hq, rfl, HY, HGR⟩ := hrel
              have hq0 : (0 : Int) ≤ q := by omega
              by_cases hlt : (q : Int) < nB
              · obtain ⟨gu, cap, x, hv, hc, hx0, hx1, hf⟩ := HY.out.cell (k := q) (by omega)
                cases hv
                go_wp2_with fail
                go_roundw
                case rel => exact ⟨q + 1, by omega, by go_num, Lib.hid (HY.out.store (by omega) (by omega)), Lib.hid (grown_set HGR.out _ _)⟩
                case measure => simp [intOf]; omega
              · have hbump := HU6.out.below T6.out.size HGR.out
                have T := T6.out.below hbump
                have R9 := Lib.hid (R6.out.low hbump HR2.out.blk.lt fun k hk => own_lt HR2.out.own k hk)
                have C9 := Lib.hid (HC2.out.two HR2.out.blk T)
                have A9 := Lib.hid (own_two HA2.out T (own_not_blk HA2.out HR2.out.blk (by decide)))
                have B9 := Lib.hid (T.below_of HB2.out HGL.out)
                clear hbump T
                go_wp2_with fail
                go_roundw
                case rel => exact ⟨i + 1, p2, by omega, by go_num, rfl, hpl, R9, C9, A9, B9⟩
                case measure => simp [intOf]; omega
        · obtain rfl : i = n := by omega
          clear hi hi0
          by_cases hcn : cq < i
          · obtain ⟨h1, _⟩ | ⟨-, g2, v2, pe, rfl, rfl, hgg, hgb, hr2⟩ := HC.out
            · omega
            have hpe := hr2.place
            rw [HM.out] at hpe
            have qc : decide (cq < i) = true := by simpa using hcn
            have hsk := skip_fine l pe (m - pe) (by rw [HM.out]; omega)
            rw [show ((m - pe : Nat) : Int) = (m : Int) - pe by omega] at hsk
            have C15 := fun W h => skip_some w.heap.size g2 v2 l pe ((m : Int) - pe) W h
            rw [hsk.1] at C15
            have HC15 := Lib.hid C15
            have HR2 := Lib.hid hr2
            have HGB := Lib.hid hgb
            have HGG := Lib.hid (show g ≠ g2 from hgg.symm)
            have HRV := Lib.hid (own_not_blk HR.out.own hr2.blk (by decide))
            clear hr2 hsk C15 hcn HC hgg hgb
            go_wp2_with (first
              | (go_at_call 23; (with_reducible refine (rplace_some g2 v2 _ _ _ HR2.out.blk).mono ?_); rintro e w6 ⟨rfl, rfl⟩)
              | (go_at_call 24; (with_reducible refine (rleft_some g2 v2 m pe _ (by omega) hpe (by have := R5.out.blk; rw [HM.out] at this; exact this)).mono ?_); rintro e w6 ⟨rfl, b6⟩; have R6 := Lib.hid (R5.out.over b6); have S6 := Lib.hid (S5.out.over b6); have B6 := Lib.hid (B5.out.trans (b6.mono B5.out.size)); clear b6)
              | (go_at_call 24; (with_reducible refine (rleft_some g2 v2 m pe _ (by omega) hpe (by have := HR2.out.blk; rw [HM.out] at this; exact this)).mono ?_); rintro e w5 ⟨rfl, b6⟩; have R5 := Lib.hid (HR2.out.over b6); have S5 := Lib.hid (HR.out.over b6); have B5 := Lib.hid (HB.out.trans (b6.mono HB.out.size)); clear b6)
              | (go_at_call 15; (with_reducible refine (HC15.out _ R6.out).mono ?_); rintro e w7 ⟨rfl, r7, t7⟩; have S7 := Lib.hid (S6.out.two t7 HGG.out HRV.out); have B7 := Lib.hid (t7.below_of B6.out HGB.out); clear r7 t7)
              | (go_at_call 23; (with_reducible refine (rplace_some g rv _ _ _ S7.out.blk).mono ?_); rintro e w6 ⟨rfl, rfl⟩)
              | (go_at_call 9; (with_reducible refine (KN.out _ B7.out).mono ?_); rintro e w8 ⟨rfl, b8⟩; have B8 := Lib.hid b8; clear b8))
            go_ret
            exact ⟨rfl, B8.out⟩
          · have qc : decide (cq < i) = false := by simpa using hcn
            clear hcn
            go_wp2_with (first
              | (go_at_call 23; (with_reducible refine (rplace_some g rv _ _ _ HR.out.blk).mono ?_); rintro e w6 ⟨rfl, rfl⟩)
              | (go_at_call 9; (with_reducible refine (KN.out _ HB.out).mono ?_); rintro e w8 ⟨rfl, b8⟩; have B8 := Lib.hid b8; clear b8))
            go_ret
            exact ⟨rfl, B8.out⟩
theorem reads_law (A0 : Option Addr) (n0 c0 : Nat) (l : List UInt8) (A : Option Addr) (n c : Nat) (f : Nat → ActV) (cp : Int) (w : World) (hl : l.length = n0) (hc0 : n0 ≤ c0) (hm0 : c0 ≤ maxLen) (hb0 : BS w w.heap.size A0 l) (hs : ActS w A n f) (hw : (Lit.int .u8 cp).wf = true) :
    Calls Try.prog 5 #[.slice A0 n0 c0, .slice A n c, .int .u8 cp] w fun e w' => e = .returned (.bool true) ∧ Below w.heap.size w w' :=
  reads_any A0 n0 c0 l A n c f cp w hl (hb0.holds hl) hs (byte_wf hw).1 (byte_wf hw).2
end Go.Proofs.Ythgbnpafhkhjpaa

/- The walk of CaptureReads. -/
import Derived.Test.YtgbkoegmoelheaaDb
import Derived.Test.YtgbkoegmoelheaaDc
namespace Go.Proofs.Ytgbkoegmoelheaa
open Go.RowKit
set_option linter.unusedVariables false
set_option linter.unusedSimpArgs false

theorem endG_le (xs : List Fd) (h : ∀ x ∈ xs, fitsP x.l = true) (n : Nat) : (endG (rdAll xs) n).length ≤ xs.length + 1 ∧ (rdAll xs).l.length ≤ 64 * xs.length := by
  have := rd_bound xs h xs.length
  rw [List.take_length] at this
  refine ⟨?_, this.1⟩
  have h2 := this.2
  unfold endG
  split <;> simp <;> omega
/-- What Read returns, by its parts. -/
def ReadR (w : World) (L : List UInt8) (n : Nat) (e : Ending) (w' : World) : Prop := ∃ A1 n1 c1 A2 n2 c2 ds, e = .returned (.tuple #[.slice A1 n1 c1, .slice A2 n2 c2]) ∧ PL w' A1 n1 c1 ds ∧ pks ds = (rdAll (blks L 0)).l ∧ GL w' A2 n2 c2 (endG (rdAll (blks L 0)) n) ∧ Below w.heap.size w w'
theorem read_r (A : Option Addr) (n c : Nat) (L : List UInt8) (w : World) (h : RB w A n c L) (hn : n ≤ 2000000) : Calls Try.prog 24 #[.slice A n c] w (ReadR w L n) :=
  (read_any A n c L w h hn).mono fun e w' ⟨vl, vg, ds, h1, h2, h3, h4, h5⟩ => by
    obtain ⟨A1, c1, rfl⟩ := h2.form
    obtain ⟨A2, c2, rfl, -⟩ := own_formS h4
    exact ⟨A1, _, c1, A2, _, c2, ds, h1, h2.pl, h3, ⟨rfl, HoldsS.own h4⟩, h5⟩
def RReadS (w : World) (L : List UInt8) (n : Nat) (e : Ending) (w' : World) : Prop := ∃ A1 n1 c1 A2 n2 c2 A3 c3 ds, e = .returned (.tuple #[.slice A1 n1 c1, .slice A2 n2 c2, .slice A3 (blks L 0).length c3]) ∧ PL w' A1 n1 c1 ds ∧ pks ds = (rdAll (blks L 0)).l ∧ GL w' A2 n2 c2 (endG (rdAll (blks L 0)) n) ∧ HoldsS w' 2 A3 (blks L 0).length ((blks L 0).flatMap acells) ∧ Below w.heap.size w w'
theorem rread_r (A : Option Addr) (n c : Nat) (L : List UInt8) (w : World) (h : RB w A n c L) (hn : n ≤ 2000000) : Calls Try.prog 28 #[.slice A n c] w (RReadS w L n) :=
  (rread_any A n c L w h hn).mono fun e w' ⟨xs, vl, vg, va, ds, hxs, h1, h2, h3, h4, h5, h6⟩ => by
    subst hxs
    obtain ⟨A1, c1, rfl⟩ := h2.form
    obtain ⟨A2, c2, rfl, -⟩ := own_formS h4
    obtain ⟨A3, c3, rfl, -⟩ := own_formS h5
    exact ⟨A1, _, c1, A2, _, c2, A3, c3, ds, h1, h2.pl, h3, ⟨rfl, HoldsS.own h4⟩, HoldsS.own h5, h6⟩

set_option maxRecDepth 100000 in
set_option maxHeartbeats 8000000 in
theorem reads_law (A : Option Addr) (n c : Nat) (L : List UInt8) (many : Int) (w : World) (hl : L.length = n) (hc : n ≤ c) (hm : c ≤ maxLen) (hw : BS w w.heap.size A L) (hz : A = none → c = 0) (hmw : (Lit.int .i64 many).wf = true) :
    Calls Try.prog 8 #[.slice A n c, .int .i64 many] w fun e w' => e = .returned (.bool true) ∧ Below w.heap.size w w' := by
  have hR : RB w A n c L := ⟨hl, hw.holds hl, hc, hm, hz⟩
  have HR := Lib.hid hR
  have hn0 : (n : Int) ≤ 9223372036854775807 := by unfold maxLen at hm; omega
  have hb := bounds_i64 hmw
  have HMB := Lib.hid (show -9223372036854775808 ≤ many ∧ many < 9223372036854775808 from ⟨hb.1, by have := hb.2; omega⟩)
  have K := Lib.hid known_any
  clear hl hc hm hw hz hR hb hmw
  by_cases h9 : 6000 < (n : Int)
  · have q0 : decide (6000 < (n : Int)) = true := decide_eq_true h9
    go_enter Try.func8, Try.ntmps8
    go_wp2_with (go_at_call 10; (with_reducible refine (K.out _).mono ?_); rintro e w1 ⟨rfl, hb⟩; have HB := Lib.hid hb; clear hb)
    go_ret
    exact ⟨rfl, HB.out⟩
  have q0 : decide (6000 < (n : Int)) = false := decide_eq_false h9
  have HN := Lib.hid (show n ≤ 6000 by omega)
  clear h9 hn0
  have hn0 : (n : Int) ≤ 6000 := by have := HN.out; omega
  have HSP := Lib.hid (blks_spec L)
  have HLN := Lib.hid HR.out.len
  go_enter Try.func8, Try.ntmps8
  go_wp2_with (at_builtin; go_must (refine wpList_app_own (base := w.heap.size) (n := 0) (m := n) (xs := []) (news := L.map Go.Proofs.Ytgbkoegmoelheaa.u8) rfl (.const (.slice none 0 0)) (.tmp 15) 23 rfl el22 rfl (World.ownsRow_nil _ _ 5 1) rfl HR.out.h (u8_one _) (by have := HN.out; unfold maxLen; omega) (by have := HN.out; omega) (Nat.le_refl _) ?_; intro v3 w1 hown hg hat; refine Hid.out ?_))
  rw [Nat.zero_add, List.nil_append] at hown
  obtain ⟨A3, c3, rfl, -⟩ := own_form hown
  have HO1 := Lib.hid hown
  have HB1 := Lib.hid (below_own (Below.refl _ _) (Nat.le_refl _) (World.ownsRow_nil _ _ 5 1) hg)
  refine Lib.hid ?_
  clear hown hg hat
  have C24 := Lib.hid (read_r A3 n c3 L w1 (own_RB3 HO1.out) (by have := HN.out; omega))
  go_upto_region 4 with (go_at_call 24; (with_reducible refine C24.out.mono ?_); rintro e w2 ⟨B1, m1, k1, B2, m2, k2, ds, rfl, hp, hq, hg, hb⟩; have HP2 := Lib.hid hp; have HQ2 := Lib.hid hq; have HG2 := Lib.hid hg; have HB2 := Lib.hid (HB1.out.trans (hb.mono HB1.out.size)); clear hp hq hg hb)
  clear C24
  have C28 := Lib.hid (rread_r A n c L w2 (HR.out.below HB2.out) (by have := HN.out; omega))
  go_upto_region 5 with (go_at_call 28; (with_reducible refine C28.out.mono ?_); rintro e w3 ⟨B3, m3, k3, B4, m4, k4, B5, k5, es, rfl, hp, hq, hg, ha, hb⟩; have HP3 := Lib.hid hp; have HQ3 := Lib.hid hq; have HG3 := Lib.hid hg; have HA3 := Lib.hid ha; have HB23 := Lib.hid hb; have HB3 := Lib.hid (HB2.out.trans (hb.mono HB2.out.size)); clear hp hq hg ha hb)
  clear C28
  obtain ⟨xs, hxs⟩ : ∃ xs, blks L 0 = xs := ⟨_, rfl⟩
  have HXL := Lib.hid hxs.symm
  have hsp := HSP.out
  rw [hxs] at hsp HQ2 HG2 HQ3 HG3 HA3 ⊢
  clear HSP
  have hle := endG_le xs (fun x hx => (hsp.2 x hx).1) n
  have HXN := Lib.hid (show xs.length ≤ 6000 by have := hsp.1; have := HLN.out; have := HN.out; omega)
  have HLE := Lib.hid hle
  clear hxs hsp hle
  have C17 := Lib.hid (same_any B1 B3 m1 k1 m3 k3 ds es w3 (HP2.out.below HB23.out) HP3.out (by rw [HQ2.out, HQ3.out]) (by have h1 := HP2.out.len; have h2 := congrArg List.length HQ2.out; have := HLE.out.2; have := HXN.out; simp [pks] at h2; omega))
  have C25 := Lib.hid (fun (W : World) (hb : Below w3.heap.size w3 W) => gaps_any B2 B4 m2 k2 m4 k4 (endG (rdAll xs) n) W ⟨HG2.out.len, HG2.out.h.keep (HB23.out.trans (hb.mono HB23.out.size))⟩ ⟨HG3.out.len, HG3.out.h.keep hb⟩ (by have := HG2.out.len; have := HLE.out.1; have := HXN.out; omega))
  have C29 := Lib.hid (fun (W : World) (hb : Below w3.heap.size w3 W) => lblocks_any A n c L many B5 k5 xs W (HR.out.below (HB3.out.trans (hb.mono HB3.out.size))) (by have := HN.out; omega) HMB.out.1 HMB.out.2 HXL.out (HA3.out.keep hb))
  go_wp2_with (first | (go_at_call 17; (with_reducible refine C17.out.mono ?_); rintro e w4 ⟨rfl, b4⟩; have HB34 := Lib.hid b4; clear b4) | (go_at_call 25; (with_reducible refine (C25.out _ HB34.out).mono ?_); rintro e w5 ⟨rfl, b5⟩; have HB35 := Lib.hid (HB34.out.trans (b5.mono HB34.out.size)); clear b5) | (go_at_call 29; (with_reducible refine (C29.out _ HB35.out).mono ?_); rintro e w6 ⟨rfl, b6⟩; have HB36 := Lib.hid (HB35.out.trans (b6.mono HB35.out.size)); clear b6) | (go_at_call 10; (with_reducible refine (K.out _).mono ?_); rintro e w7 ⟨rfl, b7⟩; have HB37 := Lib.hid (HB36.out.trans (b7.mono HB36.out.size)); clear b7))
  go_ret
  exact ⟨rfl, HB3.out.trans (HB37.out.mono HB3.out.size)⟩
end Go.Proofs.Ytgbkoegmoelheaa

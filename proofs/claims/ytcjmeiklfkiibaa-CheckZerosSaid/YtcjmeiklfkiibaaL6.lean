/- The walk of CheckZeros. -/
import Derived.Test.YtcjmeiklfkiibaaFlipP
import Derived.Test.YtcjmeiklfkiibaaKn
import Derived.Outline
namespace Go.Proofs.Ytcjmeiklfkiibaa
open Go.RowKit

theorem own_take {w : World} {B n m cap : Nat} {A : Option Addr} {e : TypeId} {xs : List Value} (h : w.ownsRow B e 1 (.slice A m cap) m xs) (hn : n ≤ m) : w.ownsRow B e 1 (.slice A n cap) n (xs.take n) := by
  rcases h.2 with ⟨h0, h1⟩ | ⟨g', cap', cur, hv, hg, hh, hnc, hm, hs, ht⟩
  · cases h0
    obtain rfl : n = 0 := by omega
    exact World.ownsRow_nil w B e 1
  · cases hv
    exact own_prefix h hn

set_option maxRecDepth 100000 in
set_option maxHeartbeats 2000000 in
theorem zeros_law (A : Option Addr) (n c : Nat) (l : List UInt8) (w : World) (hl : l.length = n) (_ : n ≤ c) (_ : c ≤ maxLen) (hb : BS w w.heap.size A l) :
    Calls Try.prog 6 #[.slice A n c] w fun e w' => e = .returned (.bool true) ∧ Below w.heap.size w w' := by
  by_cases hn : (n : Int) ≤ 2000
  · have HH := Lib.hid (hb.holds hl)
    have HL := Lib.hid hl
    have H1 := Lib.hid (u8_one l)
    clear hl hb
    go_enter Try.func6, Try.ntmps6
    go_wp2_with fail
    go_loopw [3] (fun i wr => ∃ k : Int, (k = 1 ∨ k = 2 ∨ k = 3) ∧ i = .int .i64 k ∧ Below w.heap.size w wr) (fun i _ => (4 - intOf i).toNat)
    case atStart => exact ⟨1, by omega, rfl, Below.refl _ _⟩
    case round =>
      obtain ⟨k, hk, rfl, hbw⟩ := hrel
      have HB0 := Lib.hid hbw
      clear hbw
      rcases hk with rfl | rfl | rfl
      · have hlen : (l.take (n / 2 * 2)).length = (n / 2 * 2) := by rw [List.length_take, HL.out]; omega
        have hz := chk_zero 1 (by omega) (l.take (n / 2 * 2)) (by intro _; omega)
        have hrg := chk_range 1 (by omega) (l.take (n / 2 * 2))
        unfold topS at hrg
        rw [if_neg (by omega)] at hrg
        have HZ := Lib.hid hz
        have HLEN := Lib.hid hlen
        obtain ⟨v, hv⟩ : ∃ v, chkS 1 (l.take (n / 2 * 2)) = v := ⟨_, rfl⟩
        rw [hv] at HZ hrg
        obtain ⟨r0, r1⟩ := hrg
        have HV := Lib.hid hv
        have hx := one_u8s (bytS 1 v)
        have HX := Lib.hid hx
        have hbl : (bytS 1 v).length = 2 := by unfold bytS; rw [if_neg (by omega)]; rfl
        have HBL := Lib.hid hbl
        clear hz hlen hv hx hbl
        go_wp2_with (at_builtin; go_must (refine wpList_app_own (base := w.heap.size) (n := 0) (m := n) (xs := []) (news := l.map Ytcjmeiklfkiibaa.u8) rfl (.tmp 19) (.tmp 20) 22 rfl el22 rfl (own_base (own_none00 wr 5) HB0.out.size) rfl ((HH.out.keep HB0.out).alloc _) H1.out (by unfold maxLen; omega) (by omega) (by have := HB0.out.size; simp; omega) ?_; intro v1 w1 hown hg _; rw [Nat.zero_add, List.nil_append] at hown; have HO1 := Lib.hid hown; have HB1 := Lib.hid (below_own (HB0.out.alloc HB0.out.size _) (by have := HB0.out.size; simp; omega) (own_base (own_none00 wr 5) HB0.out.size) hg); clear hown hg; obtain ⟨A1, cap1, rfl, hc1, hc2, hc3, -⟩ := own_form HO1.out; have hc1' : (n : Int) ≤ cap1 := (by omega); refine Hid.out ?_))
        refine Lib.hid ?_
        clear hc3
        go_wp2_with fail
        have HO1 := Lib.hid (own_take HO1.out (show n / 2 * 2 ≤ n by omega))
        rw [← List.map_take] at HO1
        (with_reducible refine (ofx_ok 1 (by omega) A1 (n / 2 * 2) cap1 (l.take (n / 2 * 2)) _ HLEN.out (by omega) (own_BS HO1.out)).mono ?_); rintro e w2 ⟨rfl, b2⟩
        rw [HV.out]
        have HB2 := Lib.hid (HB1.out.trans (b2.mono HB1.out.size))
        have HO2 := Lib.hid (own_none HO1.out (grown_of_below b2))
        clear b2
        go_wp2_with fail
        (with_reducible refine (byt_1 v _ r0 r1).mono ?_); rintro e w3 ⟨val, rfl, ho, b3⟩
        obtain ⟨A3, cap3, rfl, -⟩ := own_form ho
        have HB3 := Lib.hid (HB2.out.trans (b3.mono HB2.out.size))
        have HO3 := Lib.hid (own_none HO2.out (grown_of_below b3))
        have HX3 := Lib.hid (holds_own ho)
        clear b3 ho
        go_wp2_with (at_builtin; go_must (refine wpList_app_own (base := w.heap.size) (n := (n / 2 * 2)) (m := 2) (xs := (l.take (n / 2 * 2)).map Ytcjmeiklfkiibaa.u8) (news := (bytS 1 v).map Ytcjmeiklfkiibaa.u8) rfl (.tmp 44) (.tmp 45) 22 rfl el22 rfl HO3.out rfl HX3.out HX.out (by unfold maxLen; omega) (by omega) HB3.out.size ?_; intro v4 w4 hown hg _; rw [← List.map_append] at hown; have HO4 := Lib.hid hown; have HB4 := Lib.hid (below_own HB3.out HB3.out.size HO3.out hg); clear hown hg; obtain ⟨A4, cap4, rfl, -⟩ := own_form HO4.out; refine Hid.out ?_))
        refine Lib.hid ?_
        go_wp2_with fail
        (with_reducible refine (ofx_ok 1 (by omega) A4 ((n / 2 * 2) + 2) cap4 ((l.take (n / 2 * 2)) ++ bytS 1 v) _ (by rw [List.length_append, HLEN.out, HBL.out]) (by omega) (own_BS HO4.out)).mono ?_); rintro e w5 ⟨rfl, b5⟩
        rw [HZ.out]
        have HB5 := Lib.hid (HB4.out.trans (b5.mono HB4.out.size))
        clear b5
        go_wp2_with fail
        go_roundw
        case rel => exact ⟨2, by omega, rfl, HB5.out⟩
        case measure => simp [intOf]
      · have hlen : l.length = n := by exact HL.out
        have hz := chk_zero 2 (by omega) l (by omega)
        have hrg := chk_range 2 (by omega) l
        unfold topS at hrg
        rw [if_neg (by omega)] at hrg
        have HZ := Lib.hid hz
        have HLEN := Lib.hid hlen
        obtain ⟨v, hv⟩ : ∃ v, chkS 2 l = v := ⟨_, rfl⟩
        rw [hv] at HZ hrg
        obtain ⟨r0, r1⟩ := hrg
        have HV := Lib.hid hv
        have hx := one_u8s (bytS 2 v)
        have HX := Lib.hid hx
        have hbl : (bytS 2 v).length = 2 := by unfold bytS; rw [if_neg (by omega)]; rfl
        have HBL := Lib.hid hbl
        clear hz hlen hv hx hbl
        go_wp2_with (at_builtin; go_must (refine wpList_app_own (base := w.heap.size) (n := 0) (m := n) (xs := []) (news := l.map Ytcjmeiklfkiibaa.u8) rfl (.tmp 19) (.tmp 20) 22 rfl el22 rfl (own_base (own_none00 wr 5) HB0.out.size) rfl ((HH.out.keep HB0.out).alloc _) H1.out (by unfold maxLen; omega) (by omega) (by have := HB0.out.size; simp; omega) ?_; intro v1 w1 hown hg _; rw [Nat.zero_add, List.nil_append] at hown; have HO1 := Lib.hid hown; have HB1 := Lib.hid (below_own (HB0.out.alloc HB0.out.size _) (by have := HB0.out.size; simp; omega) (own_base (own_none00 wr 5) HB0.out.size) hg); clear hown hg; obtain ⟨A1, cap1, rfl, hc1, hc2, hc3, -⟩ := own_form HO1.out; have hc1' : (n : Int) ≤ cap1 := (by omega); refine Hid.out ?_))
        refine Lib.hid ?_
        clear hc3
        go_wp2_with fail
        (with_reducible refine (ofx_ok 2 (by omega) A1 n cap1 l _ HLEN.out (by omega) (own_BS HO1.out)).mono ?_); rintro e w2 ⟨rfl, b2⟩
        rw [HV.out]
        have HB2 := Lib.hid (HB1.out.trans (b2.mono HB1.out.size))
        have HO2 := Lib.hid (own_none HO1.out (grown_of_below b2))
        clear b2
        go_wp2_with fail
        (with_reducible refine (byt_2 v _ r0 r1).mono ?_); rintro e w3 ⟨val, rfl, ho, b3⟩
        obtain ⟨A3, cap3, rfl, -⟩ := own_form ho
        have HB3 := Lib.hid (HB2.out.trans (b3.mono HB2.out.size))
        have HO3 := Lib.hid (own_none HO2.out (grown_of_below b3))
        have HX3 := Lib.hid (holds_own ho)
        clear b3 ho
        go_wp2_with (at_builtin; go_must (refine wpList_app_own (base := w.heap.size) (n := n) (m := 2) (xs := l.map Ytcjmeiklfkiibaa.u8) (news := (bytS 2 v).map Ytcjmeiklfkiibaa.u8) rfl (.tmp 44) (.tmp 45) 22 rfl el22 rfl HO3.out rfl HX3.out HX.out (by unfold maxLen; omega) (by omega) HB3.out.size ?_; intro v4 w4 hown hg _; rw [← List.map_append] at hown; have HO4 := Lib.hid hown; have HB4 := Lib.hid (below_own HB3.out HB3.out.size HO3.out hg); clear hown hg; obtain ⟨A4, cap4, rfl, -⟩ := own_form HO4.out; refine Hid.out ?_))
        refine Lib.hid ?_
        go_wp2_with fail
        (with_reducible refine (ofx_ok 2 (by omega) A4 (n + 2) cap4 (l ++ bytS 2 v) _ (by rw [List.length_append, HLEN.out, HBL.out]) (by omega) (own_BS HO4.out)).mono ?_); rintro e w5 ⟨rfl, b5⟩
        rw [HZ.out]
        have HB5 := Lib.hid (HB4.out.trans (b5.mono HB4.out.size))
        clear b5
        go_wp2_with fail
        go_roundw
        case rel => exact ⟨3, by omega, rfl, HB5.out⟩
        case measure => simp [intOf]
      · go_wp2_with (go_at_call 11; (with_reducible refine (known_any _).mono ?_); rintro e w5 ⟨rfl, b5⟩; have B5 := Lib.hid (HB0.out.trans (b5.mono HB0.out.size)); clear b5)
        go_ret
        exact ⟨rfl, B5.out⟩
  · clear hl hb
    go_enter Try.func6, Try.ntmps6
    go_wp2_with (go_at_call 11; (with_reducible refine (known_any _).mono ?_); rintro e w5 ⟨rfl, b5⟩; have B5 := Lib.hid b5; clear b5)
    go_ret
    exact ⟨rfl, B5.out⟩
end Go.Proofs.Ytcjmeiklfkiibaa

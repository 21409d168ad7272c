/- The walk of CheckDivides. -/
import Derived.Test.YtcjmeiklfkiibaaSt
import Derived.Outline
namespace Go.Proofs.Ytcjmeiklfkiibaa
open Go.RowKit

theorem own_far {w w' : World} {B n sz g : Nat} {e t : TypeId} {v : Value} {xs : List Value} {cs : Array Value} (h : w.ownsRow B e sz v n xs) (hg : Blk w g t cs) (hne : e ≠ t) (hb : w.grownBy w' (some g)) : w'.ownsRow B e sz v n xs := by
  refine h.kept hb (.inr ?_)
  rcases h.2 with ⟨rfl, _⟩ | ⟨g', cap, cur, rfl, _, hh, _⟩
  · simp [Value.ownBlock]
  · intro he
    have hgg : g' = g := by simpa [Value.ownBlock] using he
    subst hgg
    have hq : Blk w g' e cur := hh
    unfold Blk at hq hg
    rw [hq] at hg
    injection hg with hg
    injection hg with _ ht
    exact hne ht

theorem chk3_join (l m : List UInt8) (n : Nat) (hn : m.length = n) (h5 : n ≤ 60000) (W : World) : Calls Try.prog 18 #[.int .i64 (chkS 3 l), .int .i64 (chkS 3 m), .int .i64 n] W fun e w' => e = .returned (.tuple #[.int .i64 (chkS 3 (l ++ m)), .int .i64 0]) ∧ W = w' := by
  have h1 := chk_range 3 (by omega) l
  have h2 := chk_range 3 (by omega) m
  unfold topS at h1 h2
  rw [if_pos rfl] at h1 h2
  rw [chk_join, hn]
  exact join_ok _ _ _ W h1.1 h1.2 h2.1 h2.2 (by omega) (by omega)

set_option maxRecDepth 100000 in
set_option maxHeartbeats 2000000 in
theorem divides_law (A : Option Addr) (n c : Nat) (l : List UInt8) (B : Option Addr) (m d : Nat) (r : List UInt8) (w : World) (hl : l.length = n) (_ : n ≤ c) (_ : c ≤ maxLen) (hb : BS w w.heap.size A l) (hr : r.length = m) (_ : m ≤ d) (_ : d ≤ maxLen) (hb2 : BS w w.heap.size B r) :
    Calls Try.prog 8 #[.slice A n c, .slice B m d] w fun e w' => e = .returned (.bool true) ∧ Below w.heap.size w w' := by
  by_cases hn : (n : Int) ≤ 2000
  · by_cases hm : (m : Int) ≤ 2000
    · have HH := Lib.hid (hb.holds hl)
      have HB := Lib.hid hb
      have HL := Lib.hid hl
      have H1 := Lib.hid (u8_one l)
      have GH := Lib.hid (hb2.holds hr)
      have GB := Lib.hid hb2
      have GL := Lib.hid hr
      have G1 := Lib.hid (u8_one r)
      have HLR := Lib.hid (show (l ++ r).length = n + m by rw [List.length_append, hl, hr])
      have HJ := Lib.hid (chk3_join l r m hr (by omega))
      clear hl hb hr hb2
      go_enter Try.func8, Try.ntmps8
      go_wp2_with (first
        | (at_builtin; refine wpList_app_own (base := w.heap.size) (n := 0) (m := n) (xs := []) (news := l.map Ytcjmeiklfkiibaa.u8) rfl (.tmp 30) (.tmp 31) 22 rfl el22 rfl (own_none00 w 5) rfl (HH.out.alloc _) H1.out (by unfold maxLen; omega) (by omega) (by simp) ?_; intro v1 w1 hown hg _; rw [Nat.zero_add, List.nil_append] at hown; have HO1 := Lib.hid hown; have HB1 := Lib.hid (below_own ((Below.refl w.heap.size w).alloc (Nat.le_refl _) _) (by simp) (own_none00 w 5) hg); clear hown hg)
        | (at_builtin; go_must (refine wpList_app_own (base := w.heap.size) (n := n) (m := m) (xs := l.map Ytcjmeiklfkiibaa.u8) (news := r.map Ytcjmeiklfkiibaa.u8) rfl (.tmp 32) (.tmp 33) 22 rfl el22 rfl HO1.out rfl (GH.out.keep HB1.out) G1.out (by unfold maxLen; omega) (by omega) HB1.out.size ?_; intro v2 w2 hown hg _; rw [← List.map_append] at hown; have HO2 := Lib.hid hown; have HB2 := Lib.hid (below_own HB1.out HB1.out.size HO1.out hg); clear hown hg; obtain ⟨A2, cap2, rfl, hc1, -⟩ := own_form HO2.out)))
      (with_reducible refine (ofx_ok 3 (by omega) A n c l _ HL.out (by omega) ((HB.out.below HB2.out).more HB2.out.size)).mono ?_); rintro e w3 ⟨rfl, b3⟩
      have HB3 := Lib.hid (HB2.out.trans (b3.mono HB2.out.size))
      have HO3 := Lib.hid (own_none HO2.out (grown_of_below b3))
      clear b3
      go_wp2_with fail
      (with_reducible refine (ofx_ok 3 (by omega) B m d r _ GL.out (by omega) ((GB.out.below HB3.out).more HB3.out.size)).mono ?_); rintro e w4 ⟨rfl, b4⟩
      have HB4 := Lib.hid (HB3.out.trans (b4.mono HB3.out.size))
      have HO4 := Lib.hid (own_none HO3.out (grown_of_below b4))
      clear b4
      go_wp2_with fail
      (with_reducible refine (ofx_ok 3 (by omega) A2 (n + m) cap2 (l ++ r) _ HLR.out (by omega) (own_BS HO4.out)).mono ?_); rintro e w5 ⟨rfl, b5⟩
      have HB5 := Lib.hid (HB4.out.trans (b5.mono HB4.out.size))
      have HO5 := Lib.hid (own_none HO4.out (grown_of_below b5))
      clear b5
      go_wp2_with (go_at_call 18; (with_reducible refine (HJ.out _).mono ?_); rintro e w6 ⟨rfl, rfl⟩)
      go_loopw [14] (fun i wr => ∃ k : Int, 1 ≤ k ∧ k ≤ 4 ∧ i = .int .i64 k ∧ wr.ownsRow w.heap.size 5 1 (.slice A2 (n + m) cap2) (n + m) ((l ++ r).map Ytcjmeiklfkiibaa.u8) ∧ Below w.heap.size w wr) (fun i _ => (4 - intOf i).toNat)
      case atStart => exact ⟨1, by omega, by omega, rfl, HO5.out, HB5.out⟩
      case round =>
        obtain ⟨k, hk1, hk4, rfl, hown, hbw⟩ := hrel
        have HO6 := Lib.hid hown
        have HB6 := Lib.hid hbw
        clear hown hbw
        by_cases hk : k ≤ 3
        · have HK := Lib.hid (show 1 ≤ k ∧ k ≤ 3 from ⟨hk1, hk⟩)
          go_wp2_with fail
          (with_reducible refine (new_ok k HK.out _).mono ?_); rintro e w7 ⟨g, rfl, hg, hs, b7⟩
          have HS7 := Lib.hid hs
          have HG := Lib.hid hg
          have HB7 := Lib.hid (HB6.out.trans (b7.mono HB6.out.size))
          have HO7 := Lib.hid (own_none HO6.out (grown_of_below b7))
          have HGW := Lib.hid (Nat.le_trans HB6.out.size hg)
          clear hs hg b7
          go_wp2_with fail
          (with_reducible refine (write_ok k HK.out A n c g [] l _ HL.out (by omega) (by decide) ((HB.out.below HB7.out).more HB7.out.size) (bs_ne HB.out HL.out HGW.out) HS7.out).mono ?_); rintro e w8 ⟨⟨rfl, hs⟩, b8⟩
          have HS8 := Lib.hid hs
          have HB8 := Lib.hid (below_grown HB7.out HB7.out.size HGW.out b8)
          have HO8 := Lib.hid (own_far HO7.out HS7.out (by decide) b8)
          clear hs b8
          go_wp2_with fail
          (with_reducible refine (write_ok k HK.out B m d g ([] ++ l) r _ GL.out (by omega) (by rw [List.nil_append, HL.out]; omega) ((GB.out.below HB8.out).more HB8.out.size) (bs_ne GB.out GL.out HGW.out) HS8.out).mono ?_); rintro e w9 ⟨⟨rfl, hs⟩, b9⟩
          have HS9 := Lib.hid hs
          have HB9 := Lib.hid (below_grown HB8.out HB8.out.size HGW.out b9)
          have HO9 := Lib.hid (own_far HO8.out HS8.out (by decide) b9)
          clear hs b9
          go_wp2_with fail
          (with_reducible refine (sum_ok k HK.out g (l ++ r) _ HS9.out).mono ?_); rintro e w10 ⟨rfl, b10⟩
          have HB10 := Lib.hid (HB9.out.trans (b10.mono HB9.out.size))
          have HO10 := Lib.hid (own_none HO9.out (grown_of_below b10))
          clear b10
          go_wp2_with fail
          (with_reducible refine (ofx_ok k HK.out A2 (n + m) cap2 (l ++ r) _ HLR.out (by omega) (own_BS HO10.out)).mono ?_); rintro e w11 ⟨rfl, b11⟩
          have HB11 := Lib.hid (HB10.out.trans (b11.mono HB10.out.size))
          have HO11 := Lib.hid (own_none HO10.out (grown_of_below b11))
          clear b11
          go_wp2_with fail
          go_roundw
          case rel => exact ⟨k + 1, by omega, by omega, by go_num, HO11.out, HB11.out⟩
          case measure => simp [intOf]; omega
        · go_wp2_with (go_at_call 11; (with_reducible refine (known_any _).mono ?_); rintro e w5 ⟨rfl, b5⟩; have B5 := Lib.hid (HB6.out.trans (b5.mono HB6.out.size)); clear b5)
          go_ret
          exact ⟨rfl, B5.out⟩
    · clear hl hb hr hb2
      go_enter Try.func8, Try.ntmps8
      go_wp2_with (go_at_call 11; (with_reducible refine (known_any _).mono ?_); rintro e w5 ⟨rfl, b5⟩; have B5 := Lib.hid b5; clear b5)
      go_ret
      exact ⟨rfl, B5.out⟩
  · clear hl hb hr hb2
    go_enter Try.func8, Try.ntmps8
    go_wp2_with (go_at_call 11; (with_reducible refine (known_any _).mono ?_); rintro e w5 ⟨rfl, b5⟩; have B5 := Lib.hid b5; clear b5)
    go_ret
    exact ⟨rfl, B5.out⟩
end Go.Proofs.Ytcjmeiklfkiibaa
